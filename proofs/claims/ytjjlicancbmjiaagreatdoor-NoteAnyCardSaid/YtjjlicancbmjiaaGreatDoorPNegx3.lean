/- note.num and note.parse, in the print's form. -/
import Derived.Test.YtjjlicancbmjiaaGreatDoorLW
import Derived.Test.YtjjlicancbmjiaaGreatDoorPBegx3
namespace Go.Proofs.YtjjlicancbmjiaaGreatDoor.PNeg
open Go.Proofs.YtjjlicancbmjiaaGreatDoor.PBeg
open Go.Shelf Go.Lib Go.RowKit Go.Proofs.YtjjlicancbmjiaaGreatDoorW.PrintWords Go.Proofs.YtjjlicancbmjiaaGreatDoorW.PrintLast Go.Proofs.YtjjlicancbmjiaaGreatDoorW.PrintMore
def note_num.f (a0 : Int) : Option (ByteArray) := if -9223372036854775808 ≤ a0 then (if a0 ≤ 9223372036854775807 then some ⟨(Lib.itoa a0).toArray⟩ else none) else none
theorem note_num.calls (a0 : Int) (r : ByteArray) (w : World) (hL : LW w) (h : note_num.f a0 = some r) :
    Calls Tryz.prog 45 #[.int .i64 a0] w fun e w' => e = .returned (.string r) ∧ Below w.heap.size w w' := by
  unfold note_num.f at h
  split at h
  · split at h
    · injection h with h
      subst h
      exact num_calls a0 (by omega) (by omega) w hL
    · cases h
  · cases h
def note_parse.f (a0 : ByteArray) : Option (Int) := if a0.size ≤ 281474976710656 then some (parsed a0) else none
theorem note_parse.calls (a0 : ByteArray) (r : Int) (w : World) (hL : LW w) (h : note_parse.f a0 = some r) :
    Calls Tryz.prog 50 #[.string a0] w fun e w' => e = .returned (.int .i64 r) ∧ Below w.heap.size w w' := by
  unfold note_parse.f at h
  split at h
  · injection h with h
    subst h
    exact parse_calls a0 (by assumption) w hL
  · cases h
end Go.Proofs.YtjjlicancbmjiaaGreatDoor.PNeg
