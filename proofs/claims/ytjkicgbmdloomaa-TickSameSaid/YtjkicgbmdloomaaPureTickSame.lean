/- The law hortatorlaw1.TickSame answers true at every input: sums and products in any order; nothing, and one. No condition. -/
import Derived.Test.YtjkicgbmdloomaaTickE
namespace Go.Proofs.Ytjkicgbmdloomaa.Pure
open Go.Proofs.Ytjkicgbmdloomaa.PTick

theorem TickSame : hortatorlaw1_TickSame.Pure := TickE.TickSame_pure

end Go.Proofs.Ytjkicgbmdloomaa.Pure
