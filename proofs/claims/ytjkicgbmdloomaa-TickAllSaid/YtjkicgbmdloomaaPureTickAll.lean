/- The law hortatorlaw1.TickAll answers true at every input: sums, products, quotients and fractions of any two times are the document's. No condition. -/
import Derived.Test.YtjkicgbmdloomaaTickC
namespace Go.Proofs.Ytjkicgbmdloomaa.Pure
open Go.Proofs.Ytjkicgbmdloomaa.PTick

theorem TickAll : hortatorlaw1_TickAll.Pure := TickC.TickAll_pure

end Go.Proofs.Ytjkicgbmdloomaa.Pure
