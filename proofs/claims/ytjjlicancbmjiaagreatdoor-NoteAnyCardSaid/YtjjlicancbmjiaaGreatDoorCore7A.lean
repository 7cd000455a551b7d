/- What the functions of layer 7 and their references compute, in plain words: configurations, tasks. -/
import Derived.Test.YtjjlicancbmjiaaGreatDoorL3
import Derived.Test.YtjjlicancbmjiaaGreatDoorRefT
import Derived.Test.YtjjlicancbmjiaaGreatDoorPBegx5
namespace Go.Proofs.YtjjlicancbmjiaaGreatDoor.PBeg
open Go.RowKit Go.Proofs.YtjjlicancbmjiaaGreatDoorW.PrintWords Go.Proofs.YtjjlicancbmjiaaGreatDoorW.PrintLast Go.Proofs.YtjjlicancbmjiaaGreatDoorW.PrintMore
set_option linter.unusedVariables false
set_option linter.unusedSimpArgs false
theorem pos_k {n k : Nat} (h : n < k) : ∃ m, k = m + 1 := ⟨k - 1, by omega⟩
theorem wr64 {a : Int} (h : -9223372036854775808 ≤ a) (h2 : a ≤ 9223372036854775807) : wrap64 a = a := by unfold wrap64; omega
theorem within_f (n a b : Int) : rule_within.f n a b = some (inB n a b) := by
  unfold rule_within.f inB
  by_cases h : n ≥ a
  · rw [if_pos h]; simp [show a ≤ n from h]
  · rw [if_neg h]; simp [show ¬ a ≤ n by omega]
theorem in_f (n a b : Int) : hortatorref7_in.f n a b = some (inB n a b) := by
  unfold hortatorref7_in.f inB
  by_cases h : n ≥ a
  · rw [if_pos h]; simp [show a ≤ n from h]
  · rw [if_neg h]; simp [show ¬ a ≤ n by omega]
theorem drop_ri (l : List Int) (j : Nat) (h : j < l.length) : l.drop j = rd l (j : Int) :: l.drop (j + 1) := by
  rw [List.drop_eq_getElem_cons h]
  simp [rd, List.getD_eq_getElem?_getD, List.getElem?_eq_getElem h]
/-! ### configurations -/
def numsOk (a b c d : Int) (l : List Int) : Bool := inB a 1 6 && inB b 0 3 && inB c 0 5 && inB d 0 5 && decide ((l.length : Int) ≤ 6)
theorem refcfg_end (a b c d : Int) (l : List Int) : ((hortatorref7_in.f a 1 6).bind fun t119 => (if t119 = true then ((hortatorref7_in.f b 0 3).bind fun t120 => (if t120 = true then ((hortatorref7_in.f c 0 5).bind fun t121 => (if t121 = true then ((hortatorref7_in.f d 0 5).bind fun t122 => (if t122 = true then (some (decide ((l.length : Int) ≤ 6))) else (some false))) else (some false))) else (some false))) else (some false))) = some (numsOk a b c d l) := by
  simp only [in_f, Option.bind_some, numsOk]
  cases inB a 1 6 <;> cases inB b 0 3 <;> cases inB c 0 5 <;> cases inB d 0 5 <;> simp
theorem refcfg_l0 (a b c d : Int) (l : List Int) (hl : l.length ≤ 1000) : ∀ n i k, i + n = l.length → n < k → hortatorref7_Config.l0 k (i : Int) a b c d l = some ((l.drop i).all (fun x => decide (0 ≤ x) && decide (x < b)) && numsOk a b c d l) := by
  intro n
  induction n with
  | zero =>
    intro i k hi hk
    obtain ⟨m, rfl⟩ := pos_k hk
    simp only [hortatorref7_Config.l0]
    rw [if_neg (by omega), refcfg_end, show i = l.length by omega, List.drop_length]
    rfl
  | succ n ih =>
    intro i k hi hk
    obtain ⟨m, rfl⟩ := pos_k hk
    simp only [hortatorref7_Config.l0]
    rw [if_pos (by omega), if_pos (by omega), drop_ri l i (by omega), List.all_cons, wr64 (by omega) (by omega)]
    by_cases h1 : rd l (i : Int) < 0
    · rw [if_pos h1]; simp [show ¬ 0 ≤ rd l (i : Int) by omega]
    · rw [if_neg h1]
      by_cases h2 : rd l (i : Int) ≥ b
      · rw [if_pos h2]; simp [show ¬ rd l (i : Int) < b by omega]
      · rw [if_neg h2, show ((i : Int) + 1) = ((i + 1 : Nat) : Int) by omega, ih (i + 1) m (by omega) (by omega)]
        simp [show 0 ≤ rd l (i : Int) by omega, show rd l (i : Int) < b by omega]
theorem refcfg_f {k : Nat} (a b c d : Int) (l : List Int) (hl : l.length ≤ 1000) (hk : l.length < k) : hortatorref7_Config.f k a b c d l = some (configOk a b c d l) := by
  unfold hortatorref7_Config.f
  have := refcfg_l0 a b c d l hl l.length 0 k (by omega) hk
  rw [show ((0 : Nat) : Int) = 0 by rfl] at this
  rw [this, List.drop_zero]
  congr 1
  have e : decide ((l.length : Int) ≤ 6) = decide (l.length ≤ 6) := by by_cases h : l.length ≤ 6 <;> simp [h] <;> omega
  simp only [configOk, numsOk, inB, e]
  ac_rfl
/-! ### tasks -/
theorem task_l0 (a b c d : Int) (lr : List Int) (x y z : Int) (ls : List S43) (hl : ls.length ≤ 1000) : ∀ n i k p, i + n = ls.length → n < k → 0 ≤ p → (i = 0 → p = 0) → rule_Task.l0 k p ls ls.length (i : Int) a b c d lr x y z ls = some (secsOk lr.length x i p (ls.drop i)) := by
  intro n
  induction n with
  | zero =>
    intro i k p hi hk hp hp0
    obtain ⟨m, rfl⟩ := pos_k hk
    simp only [rule_Task.l0]
    rw [if_neg (by omega), show i = ls.length by omega, List.drop_length]
    rfl
  | succ n ih =>
    intro i k p hi hk hp hp0
    obtain ⟨m, rfl⟩ := pos_k hk
    simp only [rule_Task.l0]
    rw [if_pos (by omega), if_pos (by omega), if_pos (by omega), drop_rd ls i (by omega), wr64 (by omega) (by omega), within_f, Option.bind_some]
    generalize hs : rd_T43 ls (i : Int) = s
    show _ = some (secOk lr.length x i p s && secsOk lr.length x (i + 1) s.f1 (ls.drop (i + 1)))
    by_cases h1 : s.f0 < 0
    · rw [if_pos h1]; simp [secOk, show ¬ 0 ≤ s.f0 by omega]
    rw [if_neg h1]
    by_cases h2 : s.f0 ≥ (lr.length : Int)
    · rw [if_pos h2]; simp [secOk, show ¬ s.f0 < (lr.length : Int) by omega]
    rw [if_neg h2]
    cases h3 : inB s.f2 1 200
    · simp [secOk, h3]
    rw [if_pos rfl]
    by_cases h4 : s.f1 ≤ p
    · rw [if_pos h4]
      by_cases i0 : i = 0
      · have := hp0 i0
        simp [secOk, inB, show ¬ 1 ≤ s.f1 by omega]
      · simp [secOk, i0, show ¬ p < s.f1 by omega]
    rw [if_neg h4]
    by_cases h5 : s.f1 ≥ x
    · rw [if_pos h5]; simp [secOk, inB, show ¬ s.f1 ≤ x - 1 by omega]
    rw [if_neg h5, show ((i : Int) + 1) = ((i + 1 : Nat) : Int) by omega, ih (i + 1) m s.f1 (by omega) (by omega) (by omega) (by omega)]
    have e : secOk lr.length x i p s = true := by
      simp [secOk, h3, show 0 ≤ s.f0 by omega, show s.f0 < (lr.length : Int) by omega, show p < s.f1 by omega]
      simp [inB]
      omega
    rw [e, Bool.true_and]
theorem task_f {k : Nat} (a b c d : Int) (lr : List Int) (x y z : Int) (ls : List S43) (hk : 5 ≤ k) : rule_Task.f k a b c d lr x y z ls = some (taskOk lr.length x y z ls) := by
  obtain ⟨m, rfl⟩ : ∃ m, k = m + 1 := ⟨k - 1, by omega⟩
  have j1 : rule_Task.j0 (m + 1) true a b c d lr x y z ls = some false := by simp only [rule_Task.j0]; rw [if_pos trivial]
  unfold rule_Task.f
  by_cases h1 : x < 1
  · rw [if_pos h1, j1]; simp [taskOk, show ¬ 1 ≤ x by omega]
  rw [if_neg h1]
  by_cases h2 : x > y
  · rw [if_pos h2, j1]; simp [taskOk, show ¬ x ≤ y by omega]
  rw [if_neg h2]
  by_cases h3 : y > z
  · rw [if_pos h3, j1]; simp [taskOk, show ¬ y ≤ z by omega]
  rw [if_neg h3]
  by_cases h4 : z > 200
  · rw [if_pos h4, j1]; simp [taskOk, show ¬ z ≤ 200 by omega]
  rw [if_neg h4]
  by_cases h5 : (ls.length : Int) > 2
  · rw [decide_eq_true h5, j1]; simp [taskOk, show ¬ ls.length ≤ 2 by omega]
  rw [decide_eq_false h5]
  simp only [rule_Task.j0]
  rw [if_neg (by decide)]
  have := task_l0 a b c d lr x y z ls (by omega) ls.length 0 m 0 (by omega) (by omega) (by omega) (fun _ => rfl)
  rw [show ((0 : Nat) : Int) = 0 by rfl] at this
  rw [this, List.drop_zero]
  simp [taskOk, show 1 ≤ x by omega, show x ≤ y by omega, show y ≤ z by omega, show z ≤ 200 by omega, show ls.length ≤ 2 by omega]
/-! ### what comes in, cut -/
theorem mn8 (n : Nat) (c : Int) (h0 : 0 ≤ c) : 0 ≤ mn (n : Int) c ∧ mn (n : Int) c ≤ (n : Int) ∧ mn (n : Int) c ≤ c := by unfold mn; split <;> omega
theorem take_mn {α : Type} (l : List α) (c : Int) (h0 : 0 ≤ c) : l.take (mn (l.length : Int) c).toNat = l.take c.toNat := by
  unfold mn
  split
  · rfl
  · rw [Int.toNat_natCast, List.take_length, List.take_of_length_le (by omega)]
theorem cfg_f (a b c d : Int) (l : List Int) : hortatorlaw7_Config.f a b c d l = some (a, b, c, d, l.take 8) := by
  obtain ⟨h1, h2, h3⟩ := mn8 l.length 8 (by omega)
  unfold hortatorlaw7_Config.f
  have e := take_mn l 8 (by omega)
  rw [e]
  have hl : (l.take (8 : Int).toNat).length ≤ 8 := by rw [List.length_take]; exact Nat.min_le_left _ _
  rw [if_pos h1, if_pos h2, if_pos (by simp only [List.length_nil]; omega)]
  rfl
theorem tsk_f (x y z : Int) (l : List S43) : hortatorlaw7_Task.f x y z l = some (x, y, z, l.take 4) := by
  obtain ⟨h1, h2, h3⟩ := mn8 l.length 4 (by omega)
  unfold hortatorlaw7_Task.f
  have e := take_mn l 4 (by omega)
  rw [e]
  have hl : (l.take (4 : Int).toNat).length ≤ 4 := by rw [List.length_take]; exact Nat.min_le_left _ _
  rw [if_pos h1, if_pos h2, Option.bind_some, if_pos (by simp only [List.length_nil]; omega)]
  rfl
end Go.Proofs.YtjjlicancbmjiaaGreatDoor.PBeg
