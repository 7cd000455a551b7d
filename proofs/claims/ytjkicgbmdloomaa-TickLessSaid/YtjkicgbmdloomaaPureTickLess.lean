/- The law hortatorlaw1.TickLess answers true at every input: fractions are in one order. No condition. -/
import Derived.Test.YtjkicgbmdloomaaTickD
namespace Go.Proofs.Ytjkicgbmdloomaa.Pure
open Go.Proofs.Ytjkicgbmdloomaa.PTick

theorem TickLess : hortatorlaw1_TickLess.Pure := TickD.TickLess_pure

end Go.Proofs.Ytjkicgbmdloomaa.Pure
