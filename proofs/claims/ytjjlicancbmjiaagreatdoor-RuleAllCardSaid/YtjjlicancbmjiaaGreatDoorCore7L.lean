/- What the functions of layer 7 and their references compute, in plain words: loads, pieces. -/
import Derived.Test.YtjjlicancbmjiaaGreatDoorCore7A
import Derived.Test.YtjjlicancbmjiaaGreatDoorL5
import Derived.Test.YtjjlicancbmjiaaGreatDoorL7
import Derived.Test.YtjjlicancbmjiaaGreatDoorPBegx13
namespace Go.Proofs.YtjjlicancbmjiaaGreatDoor.PBeg
open Go.RowKit Go.Proofs.YtjjlicancbmjiaaGreatDoorW.PrintWords Go.Proofs.YtjjlicancbmjiaaGreatDoorW.PrintLast Go.Proofs.YtjjlicancbmjiaaGreatDoorW.PrintMore
set_option linter.unusedVariables false
set_option linter.unusedSimpArgs false
/-! ### loads, pieces -/
def loadOk7 (a b c : Int) : Bool := inB a 1 20000 && decide (1 ≤ b) && decide (b ≤ c) && decide (c ≤ 200)
theorem load_f (a b c : Int) : rule_Load.f a b c = some (loadOk7 a b c) := by
  unfold rule_Load.f loadOk7
  rw [within_f, Option.bind_some]
  cases inB a 1 20000
  · rfl
  · rw [if_pos rfl]
    by_cases h1 : b ≥ 1
    · rw [if_pos h1]
      by_cases h2 : b ≤ c
      · rw [if_pos h2]; simp [show 1 ≤ b from h1, h2]
      · rw [if_neg h2]; simp [h2]
    · rw [if_neg h1]; simp [show ¬ 1 ≤ b by omega]
theorem refload_f (a b c : Int) : hortatorref7_Load.f a b c = some (loadOk7 a b c) := by
  rw [← load_f]
  unfold rule_Load.f hortatorref7_Load.f
  rw [within_f, in_f]
def pieceOk (n a b c e : Int) : Bool := decide (0 ≤ a) && decide (a < n) && inB b 0 200 && decide (1 ≤ e) && inB c e (200 - b)
theorem piece_f (n x y z : Int) (l : List Int) (a b c e : Int) (hc : -9223372036854775808 ≤ c ∧ c ≤ 9223372036854775807) : rule_Piece.f n x y z l a b c e = some (pieceOk n a b c e) := by
  unfold rule_Piece.f pieceOk
  by_cases h1 : a ≥ 0
  · rw [if_pos h1]
    by_cases h2 : a < n
    · rw [if_pos h2, within_f, Option.bind_some]
      cases h3 : inB b 0 200
      · simp
      · rw [if_pos rfl]
        have h3' : 0 ≤ b ∧ b ≤ 200 := by simpa [inB] using h3
        by_cases h4 : e ≥ 1
        · rw [if_pos h4]
          by_cases h5 : e ≤ c
          · rw [if_pos h5]
            by_cases h6 : c ≤ 200
            · rw [if_pos h6, wr64 (by omega) (by omega)]
              have : decide (b + c ≤ 200) = decide (c ≤ 200 - b) := by by_cases q : b + c ≤ 200 <;> simp [q] <;> omega
              rw [this]
              simp [inB, show 0 ≤ a from h1, h2, show 1 ≤ e from h4, h5]
            · rw [if_neg h6]; simp [inB, show ¬ c ≤ 200 - b by omega]
          · rw [if_neg h5]; simp [inB, h5]
        · rw [if_neg h4]; simp [show ¬ 1 ≤ e by omega]
    · rw [if_neg h2]; simp [h2]
  · rw [if_neg h1]; simp [show ¬ 0 ≤ a by omega]
theorem refpiece_f (n x y z : Int) (l : List Int) (a b c e : Int) : hortatorref7_Piece.f n x y z l a b c e = some (pieceOk n a b c e) := by
  unfold hortatorref7_Piece.f pieceOk
  by_cases h1 : a ≥ 0
  · rw [if_pos h1]
    by_cases h2 : a < n
    · rw [if_pos h2, in_f, Option.bind_some]
      cases h3 : inB b 0 200
      · simp
      · rw [if_pos rfl]
        have h3' : 0 ≤ b ∧ b ≤ 200 := by simpa [inB] using h3
        by_cases h4 : e ≥ 1
        · rw [if_pos h4, wr64 (by omega) (by omega), in_f, Option.bind_some]
          simp [show 0 ≤ a from h1, h2, show 1 ≤ e from h4]
        · rw [if_neg h4]; simp [show ¬ 1 ≤ e by omega]
    · rw [if_neg h2]; simp [h2]
  · rw [if_neg h1]; simp [show ¬ 0 ≤ a by omega]
end Go.Proofs.YtjjlicancbmjiaaGreatDoor.PBeg
