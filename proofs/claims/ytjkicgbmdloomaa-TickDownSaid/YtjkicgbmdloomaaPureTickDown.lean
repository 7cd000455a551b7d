/- The law hortatorlaw1.TickDown answers true at every input: by what is not above nought nothing is divided. No condition. -/
import Derived.Test.YtjkicgbmdloomaaTickC
namespace Go.Proofs.Ytjkicgbmdloomaa.Pure
open Go.Proofs.Ytjkicgbmdloomaa.PTick

theorem TickDown : hortatorlaw1_TickDown.Pure := TickC.TickDown_pure

end Go.Proofs.Ytjkicgbmdloomaa.Pure
