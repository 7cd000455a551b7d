/- The law hortatorlaw1.TickEdges answers true at every input: sums, products, fractions at the ends of all whole numbers. No condition. -/
import Derived.Test.YtjkicgbmdloomaaTickC
namespace Go.Proofs.Ytjkicgbmdloomaa.Pure
open Go.Proofs.Ytjkicgbmdloomaa.PTick

theorem TickEdges : hortatorlaw1_TickEdges.Pure := TickC.TickEdges_pure

end Go.Proofs.Ytjkicgbmdloomaa.Pure
