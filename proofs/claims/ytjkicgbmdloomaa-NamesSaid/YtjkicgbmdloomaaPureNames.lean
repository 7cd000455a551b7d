/- The closed law hortatorlaw0.Names answers true: the names of package api stand for the document's numbers. No condition. -/
import Derived.Test.YtjkicgbmdloomaaPNamesx1
namespace Go.Proofs.Ytjkicgbmdloomaa.Pure
open Go.RowKit Go.Proofs.Ytjkicgbmdloomaa.PNames Go.Proofs.YtjkicgbmdloomaaW.PrintWords Go.Proofs.YtjkicgbmdloomaaW.PrintLast

theorem Names : hortatorlaw0_Names.Pure := ⟨40, by decide +kernel⟩

end Go.Proofs.Ytjkicgbmdloomaa.Pure
