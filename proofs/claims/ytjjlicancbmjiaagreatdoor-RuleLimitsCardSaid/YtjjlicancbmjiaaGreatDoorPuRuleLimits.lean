/- RuleLimits in plain words. -/
import Derived.Test.YtjjlicancbmjiaaGreatDoorL12
import Derived.Test.YtjjlicancbmjiaaGreatDoorOpen7
import Derived.KernelRfl
namespace Go.Proofs.YtjjlicancbmjiaaGreatDoor.Pure
open Go.RowKit Go.Proofs.YtjjlicancbmjiaaGreatDoorW.PrintWords Go.Proofs.YtjjlicancbmjiaaGreatDoorW.PrintMore Go.Proofs.YtjjlicancbmjiaaGreatDoor.PBeg Go.Proofs.YtjjlicancbmjiaaGreatDoor.On
set_option linter.unusedVariables false
theorem tmod4 (x : Int) : Int.tmod x 4 = -3 ∨ Int.tmod x 4 = -2 ∨ Int.tmod x 4 = -1 ∨ Int.tmod x 4 = 0 ∨ Int.tmod x 4 = 1 ∨ Int.tmod x 4 = 2 ∨ Int.tmod x 4 = 3 := by
  have h1 := Int.tmod_lt_of_pos x (show (0 : Int) < 4 by omega)
  have h2 := Int.lt_tmod_of_pos x (show (0 : Int) < 4 by omega)
  omega
set_option maxRecDepth 100000 in
theorem RuleLimits (p : Int) (hp : I64 p) (q : Int) (hq : I64 q) : ∃ k, hortatorlaw7_RuleLimits.f k p q = some true := by
  refine ⟨40, ?_⟩
  unfold hortatorlaw7_RuleLimits.f
  rw [show begun7.f = some true from rfl, Option.bind_some, if_pos rfl]
  simp only [hortatorlaw7_RuleLimits.j0]
  have ht := tmod4 q
  generalize Int.tmod q 4 = d at ht
  generalize Go.bits .and .i64 p 7 = w
  by_cases h8 : Go.bits .and .i64 p 8 = 0
  · rw [if_pos h8]
    by_cases h0 : w = 0
    · rw [if_pos h0]; rcases ht with rfl | rfl | rfl | rfl | rfl | rfl | rfl <;> decide +kernel
    rw [if_neg h0]
    by_cases h1 : w = 1
    · rw [if_pos h1]; rcases ht with rfl | rfl | rfl | rfl | rfl | rfl | rfl <;> decide +kernel
    rw [if_neg h1]
    by_cases h2 : w = 2
    · rw [if_pos h2]; rcases ht with rfl | rfl | rfl | rfl | rfl | rfl | rfl <;> decide +kernel
    rw [if_neg h2]
    by_cases h3 : w = 3
    · rw [if_pos h3]; rcases ht with rfl | rfl | rfl | rfl | rfl | rfl | rfl <;> decide +kernel
    rw [if_neg h3]; rcases ht with rfl | rfl | rfl | rfl | rfl | rfl | rfl <;> decide +kernel
  · rw [if_neg h8]
    by_cases h0 : w = 0
    · rw [if_pos h0]; rcases ht with rfl | rfl | rfl | rfl | rfl | rfl | rfl <;> decide +kernel
    rw [if_neg h0]
    by_cases h1 : w = 1
    · rw [if_pos h1]; rcases ht with rfl | rfl | rfl | rfl | rfl | rfl | rfl <;> decide +kernel
    rw [if_neg h1]
    by_cases h2 : w = 2
    · rw [if_pos h2]; rcases ht with rfl | rfl | rfl | rfl | rfl | rfl | rfl <;> decide +kernel
    rw [if_neg h2]
    by_cases h3 : w = 3
    · rw [if_pos h3]; rcases ht with rfl | rfl | rfl | rfl | rfl | rfl | rfl <;> decide +kernel
    rw [if_neg h3]; rcases ht with rfl | rfl | rfl | rfl | rfl | rfl | rfl <;> decide +kernel
end Go.Proofs.YtjjlicancbmjiaaGreatDoor.Pure
