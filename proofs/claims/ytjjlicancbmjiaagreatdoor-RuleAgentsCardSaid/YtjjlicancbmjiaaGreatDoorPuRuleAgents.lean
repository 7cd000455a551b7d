/- RuleAgents in plain words. -/
import Derived.Test.YtjjlicancbmjiaaGreatDoorAg7
import Derived.Test.YtjjlicancbmjiaaGreatDoorL14
import Derived.Test.YtjjlicancbmjiaaGreatDoorOpen7
namespace Go.Proofs.YtjjlicancbmjiaaGreatDoor.Pure
open Go.RowKit Go.Proofs.YtjjlicancbmjiaaGreatDoorW.PrintWords Go.Proofs.YtjjlicancbmjiaaGreatDoorW.PrintMore Go.Proofs.YtjjlicancbmjiaaGreatDoor.PBeg Go.Proofs.YtjjlicancbmjiaaGreatDoor.On
set_option linter.unusedVariables false
section
variable (a b c d : Int) (r : List Int) (x y z : Int) (m : List S43) (L : List Int)
theorem refTask_a : hortatorref7_Task.f a b c d r x y z m = some (taskOk r.length x y z m) := rfl
theorem ag_l1 (hL : L.length ≤ 1000) (i : Nat) (hi : i < m.length) (h0 : 0 ≤ (rd_T43 m (i : Int)).f0) (h1 : (rd_T43 m (i : Int)).f0 < r.length) : ∀ n j k f, j + n = L.length → (f = true ∨ rd r (rd_T43 m (i : Int)).f0 ∈ L.drop j) → hortatorlaw7_RuleAgents.l1 (k + n + 1) L (i : Int) f (j : Int) a b c d r x y z m = hortatorlaw7_RuleAgents.l0 k L (wrap64 ((i : Int) + 1)) a b c d r x y z m := by
  intro n
  induction n with
  | zero =>
    intro j k f hj hf
    simp only [hortatorlaw7_RuleAgents.l1]
    rw [if_neg (by omega), if_pos]
    rcases hf with hf | hf
    · exact hf
    · rw [List.drop_eq_nil_of_le (by omega)] at hf; cases hf
  | succ n ih =>
    intro j k f hj hf
    rw [show k + (n + 1) + 1 = (k + n + 1) + 1 by omega]
    simp only [hortatorlaw7_RuleAgents.l1]
    rw [if_pos (by omega), wr64 (by omega) (by omega : (j : Int) + 1 ≤ 9223372036854775807), show ((j : Int) + 1) = ((j + 1 : Nat) : Int) by omega]
    by_cases c : f = true
    · rw [if_pos c]
      exact ih (j + 1) k true (by omega) (.inl rfl)
    · rw [if_neg c, if_pos (by omega), if_pos (by omega), if_pos (by omega), if_pos h0, if_pos h1]
      refine ih (j + 1) k _ (by omega) ?_
      rcases hf with hf | hf
      · exact absurd hf c
      · rw [drop_ri L j (by omega)] at hf
        rcases List.mem_cons.mp hf with e | e
        · left; simp [e]
        · exact .inr e
theorem ag_l0 (hL : L.length ≤ 1000) (hm : m.length ≤ 1000) (hin : ∀ s ∈ m, 0 ≤ s.f0 ∧ s.f0 < r.length ∧ 1 ≤ s.f2) (hs : ∀ s ∈ m, ag r s ∈ L) : ∀ n i k, i + n = m.length → hortatorlaw7_RuleAgents.l0 (k + n * (L.length + 2) + 1) L (i : Int) a b c d r x y z m = hortatorlaw7_RuleAgents.l2 k L 0 a b c d r x y z m := by
  intro n
  induction n with
  | zero =>
    intro i k hi
    rw [Nat.zero_mul, Nat.add_zero]
    simp only [hortatorlaw7_RuleAgents.l0]
    rw [if_neg (by omega)]
  | succ n ih =>
    intro i k hi
    have hmem : rd_T43 m (i : Int) ∈ m := by
      simp only [rd_T43, Int.toNat_natCast, List.getD_eq_getElem?_getD, List.getElem?_eq_getElem (show i < m.length by omega), Option.getD_some]
      exact List.getElem_mem _
    obtain ⟨h0, h1, _⟩ := hin _ hmem
    have e : k + (n + 1) * (L.length + 2) + 1 = ((k + n * (L.length + 2) + 1) + L.length + 1) + 1 := by rw [Nat.add_mul]; omega
    rw [e]
    simp only [hortatorlaw7_RuleAgents.l0]
    rw [if_pos (by omega)]
    have := ag_l1 a b c d r x y z m L hL i (by omega) h0 h1 L.length 0 (k + n * (L.length + 2) + 1) false (by omega) (.inr (by rw [List.drop_zero]; exact hs _ hmem))
    rw [show ((0 : Nat) : Int) = 0 by rfl] at this
    rw [this, wr64 (by omega) (by omega), show ((i : Int) + 1) = ((i + 1 : Nat) : Int) by omega]
    exact ih (i + 1) k (by omega)
theorem ag_l2 (hL : L.length ≤ 1000) (hm : m.length ≤ 9) (hin : ∀ s ∈ m, 0 ≤ s.f0 ∧ s.f0 < r.length ∧ 1 ≤ s.f2) (hb : ∀ g ∈ L, ∃ s ∈ m, ag r s = g) (hp : L.Pairwise (· < ·)) : ∀ n j k, j + n = L.length → hortatorlaw7_RuleAgents.l2 (k + n + 11) L (j : Int) a b c d r x y z m = some (((L.length : Int) == 0) == ((m.length : Int) == 0)) := by
  intro n
  induction n with
  | zero =>
    intro j k hj
    simp only [hortatorlaw7_RuleAgents.l2]
    rw [if_neg (by omega)]
  | succ n ih =>
    intro j k hj
    have hmem : rd L (j : Int) ∈ L := by
      simp only [rd, Int.toNat_natCast, List.getD_eq_getElem?_getD, List.getElem?_eq_getElem (show j < L.length by omega), Option.getD_some]
      exact List.getElem_mem _
    obtain ⟨s, hs, he⟩ := hb _ hmem
    have hpos := long_pos r (rd L (j : Int)) m 0 ⟨s, hs, he, (hin s hs).2.2⟩
    have hw1 : wrap64 ((j : Int) + 1) = ((j + 1 : Nat) : Int) := by rw [wr64 (by omega) (by omega)]; omega
    have ih' := ih (j + 1) k (by omega)
    obtain ⟨q, hq⟩ : ∃ q, k + n + 11 = q := ⟨_, rfl⟩
    rw [show k + (n + 1) + 11 = (k + n + 11) + 1 by omega]
    rw [hq] at ih' ⊢
    simp only [hortatorlaw7_RuleAgents.l2]
    rw [if_pos (by omega), longest_f a b c d r x y z m _ (by omega) hin (by omega), Option.bind_some, if_neg (show ¬ longAt r (rd L (j : Int)) 0 m = 0 by omega)]
    simp only [hw1]
    rw [ih']
    by_cases h : (j : Int) > 0
    · have hlt : rd L ((j : Int) - 1) < rd L (j : Int) := by
        have := List.pairwise_iff_getElem.mp hp (j - 1) j (by omega) (by omega) (by omega)
        have e : ((j : Int) - 1).toNat = j - 1 := by omega
        simp only [rd, e, Int.toNat_natCast, List.getD_eq_getElem?_getD, List.getElem?_eq_getElem (show j < L.length by omega), List.getElem?_eq_getElem (show j - 1 < L.length by omega), Option.getD_some]
        exact this
      have hw2 : wrap64 ((j : Int) - 1) = (j : Int) - 1 := wr64 (by omega) (by omega)
      rw [if_pos h, if_pos (by omega)]
      simp only [hw2]
      rw [if_pos (by omega), if_pos (by omega), if_neg (by omega)]
    · rw [if_neg h, if_pos (by omega)]
end
theorem RuleAgents (a b c d : Int) (lc : List Int) (hc : I64 a ∧ I64 b ∧ I64 c ∧ I64 d ∧ ∀ x ∈ lc, I64 x) (x y z : Int) (l : List S43) (h : I64 x ∧ I64 y ∧ I64 z ∧ ∀ s ∈ l, I64 s.f0 ∧ I64 s.f1 ∧ I64 s.f2) : ∃ k, hortatorlaw7_RuleAgents.f k a b c d lc x y z l = some true := by
  have hm : (l.take 4).length ≤ 4 := by rw [List.length_take]; exact Nat.min_le_left _ _
  have hr : (lc.take 8).length ≤ 8 := by rw [List.length_take]; exact Nat.min_le_left _ _
  have key : ∀ (m : List S43) (r : List Int), m.length ≤ 4 → r.length ≤ 8 → ∃ k, 20 ≤ k ∧ ((configOk a b c d r = true ∧ taskOk r.length x y z m = true) → hortatorlaw7_RuleAgents.j0 k false a b c d r x y z m = some true) ∧ (¬ (configOk a b c d r = true ∧ taskOk r.length x y z m = true) → hortatorlaw7_RuleAgents.j0 k true a b c d r x y z m = some true) := by
    intro m r hm hr
    have yes : ∀ k, 20 ≤ k → ¬ (configOk a b c d r = true ∧ taskOk r.length x y z m = true) → hortatorlaw7_RuleAgents.j0 k true a b c d r x y z m = some true := by
      intro k hk hn
      obtain ⟨q, rfl⟩ := pos_k (show 0 < k by omega)
      simp only [hortatorlaw7_RuleAgents.j0]
      rw [if_pos trivial, refcfg_f _ _ _ _ _ (by omega) (by omega), Option.bind_some, ruleAgents_no _ _ _ _ _ _ _ _ _ (by omega) hn]
      split <;> rfl
    by_cases hh : configOk a b c d r = true ∧ taskOk r.length x y z m = true
    · obtain ⟨hco, ht⟩ := hh
      obtain ⟨f1, f2, f3, f4, f5⟩ := agents_facts r m (task_len ht)
      refine ⟨((0 + (agentsOf r m).length + 11) + m.length * ((agentsOf r m).length + 2) + 1) + 10, by omega, fun _ => ?_, fun hn => absurd ⟨hco, ht⟩ hn⟩
      rw [show ((0 + (agentsOf r m).length + 11) + m.length * ((agentsOf r m).length + 2) + 1) + 10 = ((9 + (agentsOf r m).length + 11) + m.length * ((agentsOf r m).length + 2) + 1) + 1 by omega]
      simp only [hortatorlaw7_RuleAgents.j0]
      rw [if_neg (by decide), ruleAgents_yes _ _ _ _ _ _ _ _ _ (by omega) hco ht, Option.bind_some]
      have e0 := ag_l0 a b c d r x y z m (agentsOf r m) (by omega) (by omega) (task_mem ht) f1 m.length 0 (9 + (agentsOf r m).length + 11) (by omega)
      rw [show ((0 : Nat) : Int) = 0 by rfl] at e0
      rw [e0]
      have e2 := ag_l2 a b c d r x y z m (agentsOf r m) (by omega) (by omega) (task_mem ht) f2 f3 (agentsOf r m).length 0 9 (by omega)
      rw [show ((0 : Nat) : Int) = 0 by rfl] at e2
      rw [e2]
      congr 1
      have : ((agentsOf r m).length = 0) = (m.length = 0) := propext f5
      by_cases q : m.length = 0
      · have := f5.mpr q; simp [q, this]
      · have q2 : ¬ (agentsOf r m).length = 0 := fun e => q (f5.mp e)
        have q3 : ((m.length : Int) == 0) = false := by simp; intro e; exact q (by simp [e])
        have q4 : (((agentsOf r m).length : Int) == 0) = false := by simp; intro e; exact q2 (by simp [e])
        rw [q3, q4]; rfl
    · exact ⟨20, by omega, fun hy => absurd hy hh, yes 20 (by omega)⟩
  obtain ⟨k, hk, k1, k2⟩ := key (l.take 4) (lc.take 8) hm hr
  refine ⟨k, ?_⟩
  unfold hortatorlaw7_RuleAgents.f
  rw [show begun7.f = some true from rfl, Option.bind_some, if_pos rfl]
  simp only [cfg_f, tsk_f, Option.bind_some]
  generalize l.take 4 = m at *
  generalize lc.take 8 = r at *
  rw [refcfg_f _ _ _ _ _ (by omega) (by omega), Option.bind_some, refTask_a, Option.bind_some]
  cases hco : configOk a b c d r
  · exact k2 (by rw [hco]; simp)
  · rw [if_pos rfl]
    cases ht : taskOk r.length x y z m
    · exact k2 (by rw [ht]; simp)
    · exact k1 ⟨hco, ht⟩
end Go.Proofs.YtjjlicancbmjiaaGreatDoor.Pure
