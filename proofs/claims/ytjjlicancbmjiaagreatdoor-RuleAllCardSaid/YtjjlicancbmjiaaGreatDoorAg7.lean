/- The agents of a task's sections: what the program and the reference tell of them. -/
import Derived.Test.YtjjlicancbmjiaaGreatDoorCore7A
import Derived.Test.YtjjlicancbmjiaaGreatDoorL8
import Derived.Test.YtjjlicancbmjiaaGreatDoorPBegx14
namespace Go.Proofs.YtjjlicancbmjiaaGreatDoor.PBeg
open Go.RowKit Go.Proofs.YtjjlicancbmjiaaGreatDoorW.PrintWords Go.Proofs.YtjjlicancbmjiaaGreatDoorW.PrintLast Go.Proofs.YtjjlicancbmjiaaGreatDoorW.PrintMore
set_option linter.unusedVariables false
set_option linter.unusedSimpArgs false
def ag (lr : List Int) (s : S43) : Int := lr.getD s.f0.toNat 0
theorem compact2 (u v : Int) : Lib.compact [u, v] = if u = v then [u] else [u, v] := by
  by_cases h : u = v
  · subst h
    rw [if_pos rfl]
    simp [Lib.compact, Lib.compactUpTo, Lib.keeps, List.range, List.range.loop]
  · rw [if_neg h]
    have h' : ¬ v = u := fun e => h e.symm
    simp [Lib.compact, Lib.compactUpTo, Lib.keeps, List.range, List.range.loop, h, h']
theorem compact1 (u : Int) : Lib.compact [u] = [u] := by
  simp [Lib.compact, Lib.compactUpTo, Lib.keeps, List.range, List.range.loop]
theorem compact0 : Lib.compact ([] : List Int) = [] := rfl
theorem sort2 (u v : Int) : [u, v].mergeSort (fun x y => decide (x ≤ y)) = if u ≤ v then [u, v] else [v, u] := by
  by_cases h : u ≤ v <;> simp [List.mergeSort, List.merge, List.MergeSort.Internal.splitInTwo, h]
theorem agents0 (lr : List Int) : agentsOf lr [] = [] := by
  unfold agentsOf
  rw [List.map_nil, List.mergeSort_nil]
  rfl
theorem agents1 (lr : List Int) (s : S43) : agentsOf lr [s] = [ag lr s] := by
  unfold agentsOf
  rw [List.map_cons, List.map_nil, List.mergeSort_singleton]
  exact compact1 _
theorem agents2 (lr : List Int) (s t : S43) : agentsOf lr [s, t] = if ag lr s = ag lr t then [ag lr s] else if ag lr s < ag lr t then [ag lr s, ag lr t] else [ag lr t, ag lr s] := by
  unfold agentsOf
  rw [List.map_cons, List.map_cons, List.map_nil, sort2]
  show Lib.compact (if ag lr s ≤ ag lr t then [ag lr s, ag lr t] else [ag lr t, ag lr s]) = _
  generalize ag lr s = u
  generalize ag lr t = v
  by_cases h : u = v
  · subst h; simp [compact2]
  · rw [if_neg h]
    by_cases h2 : u < v
    · rw [if_pos h2, if_pos (by omega), compact2, if_neg h]
    · rw [if_neg h2, if_neg (by omega), compact2, if_neg (fun e => h e.symm)]
/-! ### what a task that may be has -/
theorem secs_mem {n c : Int} : ∀ (l : List S43) (i : Nat) (p : Int), secsOk n c i p l = true → ∀ s ∈ l, 0 ≤ s.f0 ∧ s.f0 < n ∧ 1 ≤ s.f2 := by
  intro l
  induction l with
  | nil => intro i p _ s hs; cases hs
  | cons a t ih =>
    intro i p h s hs
    have h1 : secOk n c i p a = true ∧ secsOk n c (i + 1) a.f1 t = true := by simpa [secsOk] using h
    rcases List.mem_cons.mp hs with rfl | hs
    · have := h1.1
      simp [secOk, inB] at this
      omega
    · exact ih _ _ h1.2 s hs
theorem task_len {n x y z : Int} {l : List S43} (h : taskOk n x y z l = true) : l.length ≤ 2 := by simp [taskOk] at h; omega
theorem task_mem {n x y z : Int} {l : List S43} (h : taskOk n x y z l = true) : ∀ s ∈ l, 0 ≤ s.f0 ∧ s.f0 < n ∧ 1 ≤ s.f2 := by
  have : secsOk n x 0 0 l = true := by simp [taskOk] at h; exact h.2
  exact secs_mem l 0 0 this
/-- the four facts of the agents' list -/
theorem agents_facts (lr : List Int) (l : List S43) (hl : l.length ≤ 2) : (∀ s ∈ l, ag lr s ∈ agentsOf lr l) ∧ (∀ a ∈ agentsOf lr l, ∃ s ∈ l, ag lr s = a) ∧ (agentsOf lr l).Pairwise (· < ·) ∧ (agentsOf lr l).length ≤ 2 ∧ ((agentsOf lr l).length = 0 ↔ l.length = 0) := by
  match l, hl with
  | [], _ => rw [agents0]; simp
  | [s], _ => rw [agents1]; simp
  | [s, t], _ =>
    rw [agents2]
    by_cases h : ag lr s = ag lr t
    · rw [if_pos h]; simp [h]
    · rw [if_neg h]
      by_cases h2 : ag lr s < ag lr t
      · rw [if_pos h2]; simp [h2]
      · rw [if_neg h2]; simp; omega
  | _ :: _ :: _ :: _, h => simp at h
/-! ### the longest section -/
def longAt (lr : List Int) (a : Int) : Int → List S43 → Int
  | cur, [] => cur
  | cur, s :: t => longAt lr a (if rd lr s.f0 = a then mx cur s.f2 else cur) t
theorem mx_le (a b : Int) : a ≤ mx a b ∧ b ≤ mx a b := by unfold mx; split <;> omega
theorem long_ge (lr : List Int) (a : Int) : ∀ (l : List S43) (cur : Int), cur ≤ longAt lr a cur l := by
  intro l
  induction l with
  | nil => intro cur; exact Int.le_refl _
  | cons s t ih =>
    intro cur
    refine Int.le_trans ?_ (ih _)
    split
    · exact (mx_le _ _).1
    · exact Int.le_refl _
theorem long_pos (lr : List Int) (a : Int) : ∀ (l : List S43) (cur : Int), (∃ s ∈ l, rd lr s.f0 = a ∧ 1 ≤ s.f2) → 0 < longAt lr a cur l := by
  intro l
  induction l with
  | nil => rintro cur ⟨s, hs, _⟩; cases hs
  | cons b t ih =>
    rintro cur ⟨s, hs, h1, h2⟩
    rcases List.mem_cons.mp hs with rfl | hs
    · show 0 < longAt lr a (if rd lr s.f0 = a then mx cur s.f2 else cur) t
      rw [if_pos h1]
      have := long_ge lr a t (mx cur s.f2)
      have := (mx_le cur s.f2).2
      omega
    · exact ih _ ⟨s, hs, h1, h2⟩
theorem long_no (lr : List Int) (a : Int) : ∀ (l : List S43) (cur : Int), (∀ s ∈ l, rd lr s.f0 ≠ a) → longAt lr a cur l = cur := by
  intro l
  induction l with
  | nil => intro cur _; rfl
  | cons b t ih =>
    intro cur h
    show longAt lr a (if rd lr b.f0 = a then mx cur b.f2 else cur) t = cur
    rw [if_neg (h b (by simp))]
    exact ih cur (fun s hs => h s (by simp [hs]))
theorem long_l0 (a b c d : Int) (lr : List Int) (x y z : Int) (ls : List S43) (g : Int) (hb : ls.length ≤ 1000) (hin : ∀ s ∈ ls, 0 ≤ s.f0 ∧ s.f0 < lr.length ∧ 1 ≤ s.f2) : ∀ n i k cur, i + n = ls.length → n < k → hortatorref7_Longest.l0 k g cur (i : Int) a b c d lr x y z ls = some (longAt lr g cur (ls.drop i)) := by
  intro n
  induction n with
  | zero =>
    intro i k cur hi hk
    obtain ⟨m, rfl⟩ := pos_k hk
    simp only [hortatorref7_Longest.l0]
    rw [if_neg (by omega), List.drop_eq_nil_of_le (by omega)]
    rfl
  | succ n ih =>
    intro i k cur hi hk
    obtain ⟨m, rfl⟩ := pos_k hk
    simp only [hortatorref7_Longest.l0]
    rw [drop_rd ls i (by omega)]
    have hmem : rd_T43 ls (i : Int) ∈ ls := by
      simp only [rd_T43, Int.toNat_natCast, List.getD_eq_getElem?_getD, List.getElem?_eq_getElem (show i < ls.length by omega), Option.getD_some]
      exact List.getElem_mem _
    obtain ⟨h1, h2, _⟩ := hin _ hmem
    rw [if_pos (by omega), if_pos (by omega), if_pos h1, if_pos h2, wr64 (by omega) (by omega), show ((i : Int) + 1) = ((i + 1 : Nat) : Int) by omega, ih (i + 1) m _ (by omega) (by omega), ih (i + 1) m _ (by omega) (by omega)]
    show _ = some (longAt lr g (if rd lr (rd_T43 ls (i : Int)).f0 = g then mx cur (rd_T43 ls (i : Int)).f2 else cur) (ls.drop (i + 1)))
    split <;> rfl
theorem longest_f {k : Nat} (a b c d : Int) (lr : List Int) (x y z : Int) (ls : List S43) (g : Int) (hb : ls.length ≤ 1000) (hin : ∀ s ∈ ls, 0 ≤ s.f0 ∧ s.f0 < lr.length ∧ 1 ≤ s.f2) (hk : ls.length < k) : hortatorref7_Longest.f k a b c d lr x y z ls g = some (longAt lr g 0 ls) := by
  unfold hortatorref7_Longest.f
  have := long_l0 a b c d lr x y z ls g hb hin ls.length 0 k 0 (by omega) hk
  rw [show ((0 : Nat) : Int) = 0 by rfl] at this
  rw [this, List.drop_zero]
/-! ### the program's -/
theorem rd_ag (lr : List Int) (s : S43) : rd lr s.f0 = ag lr s := rfl
theorem ruleAgents_yes {k : Nat} (a b c d : Int) (lr : List Int) (x y z : Int) (ls : List S43) (hk : 5 ≤ k) (hc : configOk a b c d lr = true) (ht : taskOk lr.length x y z ls = true) : rule_Agents.f k a b c d lr x y z ls = some (agentsOf lr ls) := by
  unfold rule_Agents.f
  rw [if_pos hc, task_f _ _ _ _ _ _ _ _ _ hk, Option.bind_some, if_pos ht, if_pos, if_pos]
  · have := task_len ht; omega
  · rw [List.all_eq_true]
    intro s hs
    have := task_mem ht s hs
    simp
    omega
theorem ruleAgents_no {k : Nat} (a b c d : Int) (lr : List Int) (x y z : Int) (ls : List S43) (hk : 5 ≤ k) (h : ¬ (configOk a b c d lr = true ∧ taskOk lr.length x y z ls = true)) : rule_Agents.f k a b c d lr x y z ls = some [] := by
  unfold rule_Agents.f
  by_cases hc : configOk a b c d lr = true
  · rw [if_pos hc, task_f _ _ _ _ _ _ _ _ _ hk, Option.bind_some, if_neg (fun ht => h ⟨hc, ht⟩)]
  · rw [if_neg hc]
/-! ### the reference's -/
def has (lr : List Int) (ls : List S43) (a : Int) : Bool := ls.any fun s => rd lr s.f0 == a
theorem long_has (lr : List Int) (ls : List S43) (g : Int) (hin : ∀ s ∈ ls, 0 ≤ s.f0 ∧ s.f0 < lr.length ∧ 1 ≤ s.f2) : decide (longAt lr g 0 ls > 0) = has lr ls g := by
  cases h : has lr ls g
  · have : longAt lr g 0 ls = 0 := long_no lr g ls 0 (fun s hs e => by
      have : has lr ls g = true := List.any_eq_true.mpr ⟨s, hs, by simp [e]⟩
      rw [h] at this; cases this)
    simp [this]
  · obtain ⟨s, hs, he⟩ := List.any_eq_true.mp h
    have := long_pos lr g ls 0 ⟨s, hs, by simpa using he, (hin s hs).2.2⟩
    simp [this]
theorem refag_l0 (a b c d : Int) (lr : List Int) (x y z : Int) (ls : List S43) (hls : ls.length ≤ 1000) (hin : ∀ s ∈ ls, 0 ≤ s.f0 ∧ s.f0 < lr.length ∧ 1 ≤ s.f2) (hb : 0 ≤ b ∧ b ≤ 1000) : ∀ n i k acc, i + n = b.toNat → n + ls.length + 1 < k → acc.length ≤ i → hortatorref7_Agents.l0 k acc (i : Int) a b c d lr x y z ls = some (acc ++ ((List.range' i n).map fun (j : Nat) => (j : Int)).filter (has lr ls)) := by
  intro n
  induction n with
  | zero =>
    intro i k acc hi hk ha
    obtain ⟨m, rfl⟩ := pos_k hk
    simp only [hortatorref7_Agents.l0]
    rw [if_neg (by omega)]
    simp
  | succ n ih =>
    intro i k acc hi hk ha
    obtain ⟨m, rfl⟩ := pos_k hk
    simp only [hortatorref7_Agents.l0]
    rw [if_pos (by omega), longest_f _ _ _ _ _ _ _ _ _ _ hls hin (by omega), Option.bind_some, wr64 (by omega) (by omega), show ((i : Int) + 1) = ((i + 1 : Nat) : Int) by omega]
    have hh := long_has lr ls (i : Int) hin
    rw [List.range'_succ, List.map_cons]
    by_cases h : longAt lr (i : Int) 0 ls > 0
    · rw [decide_eq_true h] at hh
      rw [if_pos h, if_pos (by omega), ih (i + 1) m _ (by omega) (by omega) (by simp; omega), List.filter_cons, ← hh, if_pos rfl, List.append_assoc]
      rfl
    · rw [decide_eq_false h] at hh
      rw [if_neg h, ih (i + 1) m _ (by omega) (by omega) (by omega), List.filter_cons, ← hh, if_neg (by decide)]
theorem ag_range {a b c d : Int} {lr : List Int} (hc : configOk a b c d lr = true) (s : S43) (h : 0 ≤ s.f0 ∧ s.f0 < lr.length) : 0 ≤ ag lr s ∧ ag lr s < b ∧ b ≤ 3 ∧ 0 ≤ b := by
  have h2 : ∀ x ∈ lr, 0 ≤ x ∧ x < b := by simp [configOk] at hc; exact hc.2
  have h3 : 0 ≤ b ∧ b ≤ 3 := by simp [configOk] at hc; omega
  have : ag lr s ∈ lr := by
    unfold ag
    rw [List.getD_eq_getElem?_getD, List.getElem?_eq_getElem (by omega)]
    exact List.getElem_mem _
  have := h2 _ this
  omega
theorem three {b u : Int} (h : 0 ≤ u ∧ u < b ∧ b ≤ 3 ∧ 0 ≤ b) : (b = 1 ∧ u = 0) ∨ (b = 2 ∧ (u = 0 ∨ u = 1)) ∨ (b = 3 ∧ (u = 0 ∨ u = 1 ∨ u = 2)) := by omega
theorem refAgents_yes {k : Nat} (a b c d : Int) (lr : List Int) (x y z : Int) (ls : List S43) (hk : 20 ≤ k) (hc : configOk a b c d lr = true) (ht : taskOk lr.length x y z ls = true) : hortatorref7_Agents.f k a b c d lr x y z ls = some (agentsOf lr ls) := by
  have hlen := task_len ht
  have hin := task_mem ht
  have hb : 0 ≤ b ∧ b ≤ 3 := by simp [configOk] at hc; omega
  unfold hortatorref7_Agents.f
  have := refag_l0 a b c d lr x y z ls (by omega) hin (by omega) b.toNat 0 k [] (by omega) (by omega) (by simp)
  rw [show ((0 : Nat) : Int) = 0 by rfl] at this
  rw [this, List.nil_append]
  congr 1
  have hr : ∀ s ∈ ls, _ := fun s hs => three (ag_range hc s ⟨(hin s hs).1, (hin s hs).2.1⟩)
  clear this hin ht
  match ls, hlen, hr with
  | [], _, _ => rw [agents0]; simp [has]
  | [s], _, hr =>
    rw [agents1]
    have h1 := hr s (by simp)
    rw [show has lr [s] = (fun a => ag lr s == a) by funext a; simp [has, rd_ag]]
    generalize ag lr s = u at *
    rcases h1 with ⟨rfl, rfl⟩ | ⟨rfl, rfl | rfl⟩ | ⟨rfl, rfl | rfl | rfl⟩ <;> decide
  | [s, t], _, hr =>
    rw [agents2]
    have h1 := hr s (by simp)
    have h2 := hr t (by simp)
    rw [show has lr [s, t] = (fun a => (ag lr s == a) || (ag lr t == a)) by funext a; simp [has, rd_ag]]
    generalize ag lr s = u at *
    generalize ag lr t = v at *
    rcases h1 with ⟨rfl, rfl⟩ | ⟨rfl, rfl | rfl⟩ | ⟨rfl, rfl | rfl | rfl⟩ <;> rcases h2 with ⟨h2, rfl⟩ | ⟨h2, rfl | rfl⟩ | ⟨h2, rfl | rfl | rfl⟩ <;> first | decide | (exfalso; omega)
  | _ :: _ :: _ :: _, h, _ => simp at h
end Go.Proofs.YtjjlicancbmjiaaGreatDoor.PBeg
