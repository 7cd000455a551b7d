/- RuleSame in plain words. -/
import Derived.Test.YtjjlicancbmjiaaGreatDoorCore7S
import Derived.Test.YtjjlicancbmjiaaGreatDoorLRuleSame
import Derived.Test.YtjjlicancbmjiaaGreatDoorOpen7
namespace Go.Proofs.YtjjlicancbmjiaaGreatDoor.Pure
open Go.RowKit Go.Proofs.YtjjlicancbmjiaaGreatDoorW.PrintWords Go.Proofs.YtjjlicancbmjiaaGreatDoorW.PrintMore Go.Proofs.YtjjlicancbmjiaaGreatDoor.PBeg Go.Proofs.YtjjlicancbmjiaaGreatDoor.On
set_option linter.unusedVariables false
theorem wrap_ne {a b : Int} (ha : I64 a) (hb : I64 b) (h : b ≠ 0) : wrap64 (a + b) ≠ a := by
  obtain ⟨h1, h2⟩ := ha
  obtain ⟨h3, h4⟩ := hb
  unfold wrap64
  omega
theorem RuleSame (x y z : Int) (l : List S43) (h : I64 x ∧ I64 y ∧ I64 z ∧ ∀ s ∈ l, I64 s.f0 ∧ I64 s.f1 ∧ I64 s.f2) (a : Int) (ha : I64 a) (b : Int) (hb : I64 b) : ∃ k, hortatorlaw7_RuleSame.f k x y z l a b = some true := by
  refine ⟨100, ?_⟩
  obtain ⟨hx, hy, hz, _⟩ := h
  unfold hortatorlaw7_RuleSame.f
  rw [show begun7.f = some true from rfl, Option.bind_some, if_pos rfl]
  simp only [tsk_f, Option.bind_some]
  have hl : (l.take 4).length ≤ 4 := by rw [List.length_take]; exact Nat.min_le_left _ _
  rw [List.take_of_length_le hl]
  generalize l.take 4 = m at hl
  generalize Go.bits .and .i64 a 3 = w
  have ex : wrap64 (x + 0) = x := by rw [Int.add_zero]; exact wr64 hx.1 hx.2
  have ey : wrap64 (y + 0) = y := by rw [Int.add_zero]; exact wr64 hy.1 hy.2
  have ez : wrap64 (z + 0) = z := by rw [Int.add_zero]; exact wr64 hz.1 hz.2
  by_cases b0 : b = 0
  · subst b0
    have s0 := same_yes (k := 100) x y z m (by omega) (by omega)
    rw [ex, ey, ez]
    by_cases h0 : w = 0
    · rw [if_pos h0, s0]; rfl
    rw [if_neg h0]
    by_cases h1 : w = 1
    · rw [if_pos h1, s0]; rfl
    rw [if_neg h1]
    by_cases h2 : w = 2
    · rw [if_pos h2, s0]; rfl
    rw [if_neg h2, if_pos (by omega), same_no _ _ _ _ _ _ _ _ (by omega) (by omega) (fun e => by have := congrArg List.length e.2.2.2; simp at this)]
    rw [Option.bind_some, if_neg (by decide), same_no _ _ _ _ _ _ _ _ (by simp; omega) (by simp; omega) (fun e => by have := congrArg List.length e.2.2.2; simp at this)]
    rw [Option.bind_some, if_neg (by decide), same_yes _ _ _ _ (by simp; omega) (by simp; omega)]
    rfl
  · have e0 : (b == 0) = false := by simp [b0]
    rw [e0]
    by_cases h0 : w = 0
    · have q := wrap_ne hx hb b0
      rw [if_pos h0, same_no _ _ _ _ _ _ _ _ (by omega) (by omega) (fun e => q e.1.symm), Option.bind_some, if_pos (by decide), same_no _ _ _ _ _ _ _ _ (by omega) (by omega) (fun e => q e.1)]; rfl
    rw [if_neg h0]
    by_cases h1 : w = 1
    · have q := wrap_ne hy hb b0
      rw [if_pos h1, same_no _ _ _ _ _ _ _ _ (by omega) (by omega) (fun e => q e.2.1.symm), Option.bind_some, if_pos (by decide), same_no _ _ _ _ _ _ _ _ (by omega) (by omega) (fun e => q e.2.1)]; rfl
    rw [if_neg h1]
    by_cases h2 : w = 2
    · have q := wrap_ne hz hb b0
      rw [if_pos h2, same_no _ _ _ _ _ _ _ _ (by omega) (by omega) (fun e => q e.2.2.1.symm), Option.bind_some, if_pos (by decide), same_no _ _ _ _ _ _ _ _ (by omega) (by omega) (fun e => q e.2.2.1)]; rfl
    rw [if_neg h2, if_pos (by omega), same_no _ _ _ _ _ _ _ _ (by omega) (by omega) (fun e => by have := congrArg List.length e.2.2.2; simp at this)]
    rw [Option.bind_some, if_neg (by decide), same_no _ _ _ _ _ _ _ _ (by simp; omega) (by simp; omega) (fun e => by have := congrArg List.length e.2.2.2; simp at this)]
    rw [Option.bind_some, if_neg (by decide), same_yes _ _ _ _ (by simp; omega) (by simp; omega)]
    rfl
end Go.Proofs.YtjjlicancbmjiaaGreatDoor.Pure
