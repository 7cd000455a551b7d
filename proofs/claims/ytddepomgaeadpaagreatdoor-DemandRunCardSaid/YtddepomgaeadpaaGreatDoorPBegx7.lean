-- Written by a program of this session (wip/pp.py) over the kit's print, with hand-proved contracts beside it.
import Derived.Test.YtddepomgaeadpaaGreatDoorPBegx0
import Derived.Test.YtddepomgaeadpaaGreatDoorPBegx3
namespace Go.Proofs.YtddepomgaeadpaaGreatDoor.PBeg
open Go.Shelf Go.Lib Go.RowKit Go.Proofs.YtddepomgaeadpaaGreatDoorW.PrintWords Go.Proofs.YtddepomgaeadpaaGreatDoorW.PrintLast Go.Proofs.YtddepomgaeadpaaGreatDoorW.PrintMore
attribute [local go_sem] max2_int min2_int max_two min_two max_three min_three max_four min_four   -- for this text's walks alone
set_option linter.unusedVariables false
set_option linter.unusedSimpArgs false

/-! ### strings_Split: function 72 -/

def strings_Split.f (a0 : ByteArray) (a1 : ByteArray) : Option (List ByteArray) := if a0.size < 4294967281 then (if a1.size = 1 then some (Lib.splitB a1 0 (Lib.countB a0 a1) a0) else none) else none
theorem strings_Split.calls (a0 : ByteArray) (a1 : ByteArray) (r : List ByteArray) (w : World) (h : strings_Split.f a0 a1 = some r) :
  Calls Tryz.prog 72 #[.string a0, .string a1] w fun e w' => ∃ v0_ : Value, e = .returned (v0_) ∧ Kd.R Kd.string 9 w' w.heap.size (fun _ => True) v0_ r ∧ Below w.heap.size w w' := by
 unfold strings_Split.f at h
 split at h
 ·split at h
  ·rename_i h1 h2
   obtain ⟨c, rfl⟩ := Lib.one_byte a1 h2
   injection h with h
   subst h
   exact split_calls a0 c w h1
  ·cases h
 ·cases h


/-! ### note_parse: function 73 -/

def note_parse.f (a0 : ByteArray) : Option (Int) := if a0.size ≤ 9223372036854775806 then (match Lib.parseIntB 32 a0.data.toList with | .ok v => some v | _ => none) else none
theorem note_parse.calls (a0 : ByteArray) (r : Int) (w : World) (h : note_parse.f a0 = some r) :
  Calls Tryz.prog 73 #[.string a0] w fun e w' => e = .returned (.int .i64 r) ∧ Below w.heap.size w w' := by
 unfold note_parse.f at h
 split at h
 ·rename_i h1
  cases hp : Lib.parseIntB 32 a0.data.toList with
  | ok v =>
   rw [hp] at h
   injection h with h
   subst h
   exact parse_calls a0 h1 _ hp w
  | «syntax» => rw [hp] at h; cases h
  | range => rw [hp] at h; cases h
 ·cases h


end Go.Proofs.YtddepomgaeadpaaGreatDoor.PBeg
