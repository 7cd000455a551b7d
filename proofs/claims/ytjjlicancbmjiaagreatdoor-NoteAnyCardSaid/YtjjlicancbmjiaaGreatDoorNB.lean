/- begun of layers 7 and 8, in the print's form. -/
import Derived.Test.YtjjlicancbmjiaaGreatDoorNeg
import Derived.Test.YtjjlicancbmjiaaGreatDoorPBegx0
namespace Go.Proofs.YtjjlicancbmjiaaGreatDoor.PNeg
open Go.Proofs.YtjjlicancbmjiaaGreatDoor.PBeg Go.RowKit
def begun7.f : Option (Bool) := some true
theorem begun7.calls (r : Bool) (w : World) (hL : LW w) (h : begun7.f = some r) :
    Calls Tryz.prog 13 #[] w fun e w' => e = .returned (.bool r) ∧ Below w.heap.size w w' := by
  injection h with h
  subst h
  exact begunL_calls w hL
end Go.Proofs.YtjjlicancbmjiaaGreatDoor.PNeg
