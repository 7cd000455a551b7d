/- The law hortatorlaw1.TickRound answers true at every input: rounded up and down are one apart or alike. No condition. -/
import Derived.Test.YtjkicgbmdloomaaTickD
namespace Go.Proofs.Ytjkicgbmdloomaa.Pure
open Go.Proofs.Ytjkicgbmdloomaa.PTick

theorem TickRound : hortatorlaw1_TickRound.Pure := TickD.TickRound_pure

end Go.Proofs.Ytjkicgbmdloomaa.Pure
