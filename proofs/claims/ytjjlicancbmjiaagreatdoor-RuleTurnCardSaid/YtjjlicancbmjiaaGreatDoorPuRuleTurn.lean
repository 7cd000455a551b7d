/- RuleTurn in plain words. -/
import Derived.Test.YtjjlicancbmjiaaGreatDoorCore7A
import Derived.Test.YtjjlicancbmjiaaGreatDoorL10
import Derived.Test.YtjjlicancbmjiaaGreatDoorOpen7
namespace Go.Proofs.YtjjlicancbmjiaaGreatDoor.Pure
open Go.RowKit Go.Proofs.YtjjlicancbmjiaaGreatDoorW.PrintWords Go.Proofs.YtjjlicancbmjiaaGreatDoorW.PrintMore Go.Proofs.YtjjlicancbmjiaaGreatDoor.PBeg Go.Proofs.YtjjlicancbmjiaaGreatDoor.On
set_option linter.unusedVariables false
theorem reftask_f (a b c d : Int) (l : List Int) (x y z : Int) (ls : List S43) : hortatorref7_Task.f a b c d l x y z ls = some (taskOk l.length x y z ls) := rfl
theorem both {b : Bool} : (some b).bind (fun t => (some b).bind fun u => some (t == u)) = some true := by cases b <;> rfl
theorem RuleTurn (a b c d : Int) (lc : List Int) (hc : I64 a ∧ I64 b ∧ I64 c ∧ I64 d ∧ ∀ x ∈ lc, I64 x) (x y z : Int) (l : List S43) (h : I64 x ∧ I64 y ∧ I64 z ∧ ∀ s ∈ l, I64 s.f0 ∧ I64 s.f1 ∧ I64 s.f2) (p : Int) (hp : I64 p) (q : Int) (hq : I64 q) : ∃ k, hortatorlaw7_RuleTurn.f k a b c d lc x y z l p q = some true := by
  refine ⟨100, ?_⟩
  unfold hortatorlaw7_RuleTurn.f
  rw [show begun7.f = some true from rfl, Option.bind_some, if_pos rfl]
  simp only [cfg_f, tsk_f, Option.bind_some]
  have hl : (l.take 4).length ≤ 4 := by rw [List.length_take]; exact Nat.min_le_left _ _
  have hr : (lc.take 8).length ≤ 8 := by rw [List.length_take]; exact Nat.min_le_left _ _
  generalize l.take 4 = m at hl
  generalize lc.take 8 = r at hr
  rw [refcfg_f _ _ _ _ _ (by omega) (by omega), Option.bind_some]
  cases configOk a b c d r
  · rfl
  · rw [if_pos rfl]
    simp only [task_f _ _ _ _ _ _ _ _ _ (show 5 ≤ 100 by decide), reftask_f]
    generalize (Int.tmod (wrap64 ((Int.tmod p 6) + 6)) 6) = w
    by_cases h0 : w = 0
    · rw [if_pos h0]; exact both
    rw [if_neg h0]
    by_cases h1 : w = 1
    · rw [if_pos h1]; exact both
    rw [if_neg h1]
    by_cases h2 : w = 2
    · rw [if_pos h2]; exact both
    rw [if_neg h2]
    by_cases h3 : w = 3
    · rw [if_pos h3, if_pos (by omega)]; exact both
    rw [if_neg h3]
    by_cases h4 : w = 4
    · rw [if_pos h4]; exact both
    rw [if_neg h4]
    exact both
end Go.Proofs.YtjjlicancbmjiaaGreatDoor.Pure
