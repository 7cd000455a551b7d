/- RuleAll in plain words. -/
import Derived.Test.YtjjlicancbmjiaaGreatDoorAg7
import Derived.Test.YtjjlicancbmjiaaGreatDoorCore7S
import Derived.Test.YtjjlicancbmjiaaGreatDoorCore7L
import Derived.Test.YtjjlicancbmjiaaGreatDoorL9
import Derived.Test.YtjjlicancbmjiaaGreatDoorOpen7
namespace Go.Proofs.YtjjlicancbmjiaaGreatDoor.Pure
open Go.RowKit Go.Proofs.YtjjlicancbmjiaaGreatDoorW.PrintWords Go.Proofs.YtjjlicancbmjiaaGreatDoorW.PrintMore Go.Proofs.YtjjlicancbmjiaaGreatDoor.PBeg Go.Proofs.YtjjlicancbmjiaaGreatDoor.On
set_option linter.unusedVariables false
theorem refTask_f (a b c d : Int) (l : List Int) (x y z : Int) (ls : List S43) : hortatorref7_Task.f a b c d l x y z ls = some (taskOk l.length x y z ls) := rfl
theorem all_l0 (l : List Int) (hb : l.length ≤ 1000) : ∀ n i k, i + n = l.length → hortatorlaw7_RuleAll.l0 (k + 2 * n + 2) l l (i : Int) = some true := by
  intro n
  induction n with
  | zero =>
    intro i k hi
    simp only [hortatorlaw7_RuleAll.l0]
    rw [if_neg (by omega)]
    simp only [hortatorlaw7_RuleAll.j3]
    rw [if_neg (by decide)]
    simp
  | succ n ih =>
    intro i k hi
    rw [show k + 2 * (n + 1) + 2 = (k + 2 * n + 2) + 1 + 1 by omega]
    simp only [hortatorlaw7_RuleAll.l0]
    rw [if_pos (by omega), decide_eq_true (by omega : (i : Int) < (l.length : Int))]
    simp only [hortatorlaw7_RuleAll.j3]
    rw [if_pos trivial, if_pos (by omega), if_pos (by omega), if_pos (by omega), if_pos trivial, wr64 (by omega) (by omega), show ((i : Int) + 1) = ((i + 1 : Nat) : Int) by omega]
    exact ih (i + 1) k (by omega)
theorem j1_f (a b c d : Int) (r : List Int) (x y z : Int) (m : List S43) (hc : configOk a b c d r = true) : hortatorlaw7_RuleAll.j1 91 false a b c d r x y z m = some true := by
  simp only [hortatorlaw7_RuleAll.j1]
  rw [if_neg (by decide), refTask_f]
  cases ht : taskOk r.length x y z m
  · rw [ruleAgents_no _ _ _ _ _ _ _ _ _ (by omega) (by rw [ht]; simp)]
    rfl
  · rw [ruleAgents_yes _ _ _ _ _ _ _ _ _ (by omega) hc ht, Option.bind_some, Option.bind_some, if_pos rfl, refAgents_yes _ _ _ _ _ _ _ _ _ (by omega) hc ht, Option.bind_some]
    have hf := (agents_facts r m (task_len ht)).2.2.2.1
    have := all_l0 (agentsOf r m) (by omega) (agentsOf r m).length 0 (88 - 2 * (agentsOf r m).length) (by omega)
    rw [show 88 - 2 * (agentsOf r m).length + 2 * (agentsOf r m).length + 2 = 90 by omega] at this
    exact this
theorem RuleAll (a b c d : Int) (lc : List Int) (hc : I64 a ∧ I64 b ∧ I64 c ∧ I64 d ∧ ∀ x ∈ lc, I64 x) (x y z : Int) (l : List S43) (h : I64 x ∧ I64 y ∧ I64 z ∧ ∀ s ∈ l, I64 s.f0 ∧ I64 s.f1 ∧ I64 s.f2)
    (x' y' z' : Int) (l' : List S43) (h' : I64 x' ∧ I64 y' ∧ I64 z' ∧ ∀ s ∈ l', I64 s.f0 ∧ I64 s.f1 ∧ I64 s.f2) (p q o : Int) (hl : I64 p ∧ I64 q ∧ I64 o) (s t u v : Int) (hp : I64 s ∧ I64 t ∧ I64 u ∧ I64 v) : ∃ k, hortatorlaw7_RuleAll.f k a b c d lc x y z l x' y' z' l' p q o s t u v = some true := by
  refine ⟨92, ?_⟩
  unfold hortatorlaw7_RuleAll.f
  rw [show begun7.f = some true from rfl, Option.bind_some, if_pos rfl]
  simp only [cfg_f, tsk_f, Option.bind_some]
  have hm : (l.take 4).length ≤ 4 := by rw [List.length_take]; exact Nat.min_le_left _ _
  have hn : (l'.take 4).length ≤ 4 := by rw [List.length_take]; exact Nat.min_le_left _ _
  have hr : (lc.take 8).length ≤ 8 := by rw [List.length_take]; exact Nat.min_le_left _ _
  generalize l.take 4 = m at hm
  generalize l'.take 4 = n at hn
  generalize lc.take 8 = r at hr
  rw [show rule_Config.f a b c d r = some (configOk a b c d r) from rfl, refcfg_f _ _ _ _ _ (by omega) (by omega), Option.bind_some, Option.bind_some, if_neg (by simp)]
  have hs : ∃ w, rule_Same.f 92 x y z m x' y' z' n = some w ∧ hortatorref7_Same.f 92 x y z m x' y' z' n = some w := by
    by_cases e : x = x' ∧ y = y' ∧ z = z' ∧ m = n
    · obtain ⟨rfl, rfl, rfl, rfl⟩ := e
      exact ⟨true, same_yes _ _ _ _ (by omega) (by omega), refsame_yes _ _ _ _ (by omega) (by omega)⟩
    · exact ⟨false, same_no _ _ _ _ _ _ _ _ (by omega) (by omega) e, refsame_no _ _ _ _ _ _ _ _ (by omega) (by omega) e⟩
  obtain ⟨w, e1, e2⟩ := hs
  rw [e1, e2, Option.bind_some, Option.bind_some, if_neg (by simp), same_yes _ _ _ _ (by omega) (by omega), Option.bind_some, if_pos rfl, load_f, refload_f, Option.bind_some, Option.bind_some, show (loadOk7 p q o != loadOk7 p q o) = false by simp]
  simp only [hortatorlaw7_RuleAll.j0]
  rw [if_neg (by decide), refcfg_f _ _ _ _ _ (by omega) (by omega), Option.bind_some]
  cases hco : configOk a b c d r
  · rfl
  · rw [if_pos rfl, task_f _ _ _ _ _ _ _ _ _ (by omega), refTask_f, Option.bind_some, Option.bind_some, if_neg (by simp), piece_f _ _ _ _ _ _ _ _ _ hp.2.2.1, refpiece_f, Option.bind_some, Option.bind_some, show (pieceOk a s t u v != pieceOk a s t u v) = false by simp]
    exact j1_f a b c d r x y z m hco
end Go.Proofs.YtjjlicancbmjiaaGreatDoor.Pure
