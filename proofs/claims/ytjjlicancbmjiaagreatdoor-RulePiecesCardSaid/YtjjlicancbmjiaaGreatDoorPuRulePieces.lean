/- RulePieces in plain words. -/
import Derived.Test.YtjjlicancbmjiaaGreatDoorCore7L
import Derived.Test.YtjjlicancbmjiaaGreatDoorLRulePieces
import Derived.Test.YtjjlicancbmjiaaGreatDoorOpen7
namespace Go.Proofs.YtjjlicancbmjiaaGreatDoor.Pure
open Go.RowKit Go.Proofs.YtjjlicancbmjiaaGreatDoorW.PrintWords Go.Proofs.YtjjlicancbmjiaaGreatDoorW.PrintMore Go.Proofs.YtjjlicancbmjiaaGreatDoor.PBeg Go.Proofs.YtjjlicancbmjiaaGreatDoor.On
set_option linter.unusedVariables false
theorem RulePieces (a : Int) (ha : I64 a) (b : Int) (hb : I64 b) (c : Int) (hc : I64 c) (e : Int) (he : I64 e) : hortatorlaw7_RulePieces.f a b c e = some true := by
  unfold hortatorlaw7_RulePieces.f
  rw [show begun7.f = some true from rfl, Option.bind_some, if_pos rfl, piece_f _ _ _ _ _ _ _ _ _ hc]
  simp only [Option.bind_some]
  unfold pieceOk inB
  by_cases h1 : a ≥ 0
  · rw [if_pos h1]
    by_cases h2 : a < 3
    · rw [if_pos h2]
      by_cases h3 : b ≥ 0
      · rw [if_pos h3]
        by_cases h4 : b ≤ 200
        · rw [if_pos h4]
          by_cases h5 : e ≥ 1
          · rw [if_pos h5]
            by_cases h6 : c ≥ e
            · rw [if_pos h6, wr64 (by omega) (by omega)]; simp [show 0 ≤ a from h1, h2, show 0 ≤ b from h3, h4, show 1 ≤ e from h5, show e ≤ c from h6]
            · rw [if_neg h6]; simp [show ¬ e ≤ c by omega]
          · rw [if_neg h5]; simp [show ¬ 1 ≤ e by omega]
        · rw [if_neg h4]; simp [h4]
      · rw [if_neg h3]; simp [show ¬ 0 ≤ b by omega]
    · rw [if_neg h2]; simp [h2]
  · rw [if_neg h1]; simp [show ¬ 0 ≤ a by omega]
end Go.Proofs.YtjjlicancbmjiaaGreatDoor.Pure
