/- The law hortatorlaw1.TickSum answers true at every input: the sum of up to thirty times is the document's. No condition. -/
import Derived.Test.YtjkicgbmdloomaaTickC
namespace Go.Proofs.Ytjkicgbmdloomaa.Pure
open Go.Proofs.Ytjkicgbmdloomaa.PTick

theorem TickSum : hortatorlaw1_TickSum.Pure := TickC.TickSum_pure

end Go.Proofs.Ytjkicgbmdloomaa.Pure
