/- Seats beside an array of bools and one of numbers. -/
import Derived.Test.YtpmamgdblbplcaaOps
import Derived.Test.YtpmamgdblbplcaaWalkSeatTurn
import Derived.Test.YtpmamgdblbplcaaWalkHeapDrop
import Derived.Test.YtpmamgdblbplcaaWalkLineOrder
namespace Go.Proofs.Ytpmamgdblbplcaa.On
open Go.RowKit Go.Proofs.Ytpmamgdblbplcaa.HeapModel Go.Proofs.Ytpmamgdblbplcaa.Bg
open Go.Proofs.Ytpmamgdblbplcaa.St (zp P idsOf)
set_option linter.unusedVariables false
set_option linter.unusedSimpArgs false

/-- seats, which are taken, what is on them -/
def SA (w0 w : World) (p G1 G2 : Nat) (s : List P) (bs : List Bool) (vs : List Int) : Prop :=
  ∃ F, St.SObj w F p s ∧ (∀ k, F k → w0.heap.size ≤ k) ∧ Below w0.heap.size w0 w ∧ ArrV w G1 4 (bs.map Value.bool) ∧ ArrV w G2 3 (vs.map (Value.int .i64)) ∧ ¬ F G1 ∧ ¬ F G2 ∧ G1 ≠ G2 ∧ w0.heap.size ≤ G1 ∧ w0.heap.size ≤ G2
/-- and the operation that was read -/
def SAO (w0 w : World) (p G1 G2 : Nat) (s : List P) (bs : List Bool) (vs : List Int) (O : Nat) (os : List Value) : Prop :=
  ∃ F, St.SObj w F p s ∧ (∀ k, F k → w0.heap.size ≤ k) ∧ Below w0.heap.size w0 w ∧ ArrV w G1 4 (bs.map Value.bool) ∧ ArrV w G2 3 (vs.map (Value.int .i64)) ∧ ¬ F G1 ∧ ¬ F G2 ∧ G1 ≠ G2 ∧ w0.heap.size ≤ G1 ∧ w0.heap.size ≤ G2 ∧
    ArrV w O 29 os ∧ ¬ F O ∧ O ≠ G1 ∧ O ≠ G2
section
variable {w0 w : World} {p G1 G2 O M : Nat} {s : List P} {bs : List Bool} {vs : List Int} {os : List Value}
theorem SA.bel (h : SA w0 w p G1 G2 s bs vs) : Below w0.heap.size w0 w := by obtain ⟨F, h1, h2, h3, _⟩ := h; exact h3
theorem SAO.bel (h : SAO w0 w p G1 G2 s bs vs O os) : Below w0.heap.size w0 w := by obtain ⟨F, h1, h2, h3, _⟩ := h; exact h3
theorem SAO.sa (h : SAO w0 w p G1 G2 s bs vs O os) : SA w0 w p G1 G2 s bs vs := by
  obtain ⟨F, h1, h2, h3, h4, h5, h6, h7, h8, h9, h10, _⟩ := h
  exact ⟨F, h1, h2, h3, h4, h5, h6, h7, h8, h9, h10⟩
theorem SA.below {w' : World} (h : SA w0 w p G1 G2 s bs vs) (hb : Below w.heap.size w w') : SA w0 w' p G1 G2 s bs vs := by
  obtain ⟨F, h1, h2, h3, h4, h5, h6, h7, h8, h9, h10⟩ := h
  exact ⟨F, h1.below hb, h2, bel_more h3 hb, h4.below hb, h5.below hb, h6, h7, h8, h9, h10⟩
theorem SAO.below {w' : World} (h : SAO w0 w p G1 G2 s bs vs O os) (hb : Below w.heap.size w w') : SAO w0 w' p G1 G2 s bs vs O os := by
  obtain ⟨F, h1, h2, h3, h4, h5, h6, h7, h8, h9, h10, h11, h12, h13, h14⟩ := h
  exact ⟨F, h1.below hb, h2, bel_more h3 hb, h4.below hb, h5.below hb, h6, h7, h8, h9, h10, h11.below hb, h12, h13, h14⟩
theorem SA.op (h : SA w0 w p G1 G2 s bs vs) (os : List Value) : SAO w0 (w.alloc (.cells os.toArray 29)) p G1 G2 s bs vs w.heap.size os := by
  have b1 : Below w.heap.size w (w.alloc (.cells os.toArray 29)) := (Below.refl _ _).alloc (Nat.le_refl _) _
  obtain ⟨F, h1, h2, h3, h4, h5, h6, h7, h8, h9, h10⟩ := h
  exact ⟨F, h1.below b1, h2, bel_more h3 b1, h4.below b1, h5.below b1, h6, h7, h8, h9, h10, heap_alloc_new w _, fun c => absurd (h1.lt c) (Nat.lt_irrefl _), fun c => absurd h4.lt (by omega), fun c => absurd h5.lt (by omega)⟩
theorem SAO.cell (h : SAO w0 w p G1 G2 s bs vs O os) (k : Nat) : w.cell? ⟨O, k, none⟩ = os[k]? := by
  obtain ⟨F, h1, h2, h3, h4, h5, h6, h7, h8, h9, h10, h11, h12, h13, h14⟩ := h
  exact h11.cell k
theorem SAO.ne (h : SAO w0 w p G1 G2 s bs vs O os) : O ≠ G1 ∧ O ≠ G2 ∧ G1 ≠ G2 ∧ G2 ≠ G1 := by
  obtain ⟨F, h1, h2, h3, h4, h5, h6, h7, h8, h9, h10, h11, h12, h13, h14⟩ := h
  exact ⟨h13, h14, h8, fun c => h8 c.symm⟩
theorem SAO.three {a b c d : Int} (h : SAO w0 w p G1 G2 s bs vs O [.int .i64 a, .int .i64 b, .int .i64 c, .int .i64 d]) : w.cell? ⟨O, 1, none⟩ = some (.int .i64 b) ∧ w.cell? ⟨O, 2, none⟩ = some (.int .i64 c) ∧ w.cell? ⟨O, 3, none⟩ = some (.int .i64 d) :=
  ⟨h.cell 1, h.cell 2, h.cell 3⟩
theorem SA.bool (h : SA w0 w p G1 G2 s bs vs) (k : Nat) (hk : k < bs.length) : w.cell? ⟨G1, k, none⟩ = some (.bool (bs.getD k false)) ∧ w.frozen? ⟨G1, k, none⟩ = false := by
  obtain ⟨F, h1, h2, h3, h4, h5, h6, h7, h8, h9, h10⟩ := h
  refine ⟨?_, h4.frozen k⟩
  rw [h4.cell, List.getElem?_map, List.getD_eq_getElem?_getD, List.getElem?_eq_getElem hk]
  rfl
theorem SA.num (h : SA w0 w p G1 G2 s bs vs) (k : Nat) (hk : k < vs.length) : w.cell? ⟨G2, k, none⟩ = some (.int .i64 (vs.getD k 0)) ∧ w.frozen? ⟨G2, k, none⟩ = false := by
  obtain ⟨F, h1, h2, h3, h4, h5, h6, h7, h8, h9, h10⟩ := h
  refine ⟨?_, h5.frozen k⟩
  rw [h5.cell, List.getElem?_map, List.getD_eq_getElem?_getD, List.getElem?_eq_getElem hk]
  rfl
theorem SA.setB (h : SA w0 w p G1 G2 s bs vs) (k : Nat) (b : Bool) : SA w0 (w.setCell ⟨G1, k, none⟩ (.bool b)) p G1 G2 s (bs.set k b) vs := by
  obtain ⟨F, h1, h2, h3, h4, h5, h6, h7, h8, h9, h10⟩ := h
  refine ⟨F, h1.move (fun j hj => Below.heap_setCell _ _ _ _ (fun c => h6 (by have : j = G1 := c; rw [← this]; exact hj))), h2, h3.setCell h9 _, ?_, h5.move (Below.heap_setCell _ _ _ _ (fun c => h8 (by have : G2 = G1 := c; exact this.symm))), h6, h7, h8, h9, h10⟩
  rw [List.map_set]
  exact h4.set k _
theorem SA.setN (h : SA w0 w p G1 G2 s bs vs) (k : Nat) (v : Int) : SA w0 (w.setCell ⟨G2, k, none⟩ (.int .i64 v)) p G1 G2 s bs (vs.set k v) := by
  obtain ⟨F, h1, h2, h3, h4, h5, h6, h7, h8, h9, h10⟩ := h
  refine ⟨F, h1.move (fun j hj => Below.heap_setCell _ _ _ _ (fun c => h7 (by have : j = G2 := c; rw [← this]; exact hj))), h2, h3.setCell h10 _, h4.move (Below.heap_setCell _ _ _ _ (fun c => h8 (by have : G1 = G2 := c; exact this))), ?_, h6, h7, h8, h9, h10⟩
  rw [List.map_set]
  exact h5.set k _
theorem SAO.touch {w' : World} {F : Nat → Prop} {s' : List P} (h2 : ∀ k, F k → w0.heap.size ≤ k) (h3 : Below w0.heap.size w0 w) (h4 : ArrV w G1 4 (bs.map Value.bool)) (h5 : ArrV w G2 3 (vs.map (Value.int .i64))) (h6 : ¬ F G1) (h7 : ¬ F G2) (h8 : G1 ≠ G2) (h9 : w0.heap.size ≤ G1) (h10 : w0.heap.size ≤ G2)
    (h11 : ArrV w O 29 os) (h12 : ¬ F O) (h13 : O ≠ G1) (h14 : O ≠ G2) (hn : St.SObj w' F p s') (ht : Hp.Touch F w w') : SAO w0 w' p G1 G2 s' bs vs O os :=
  ⟨F, hn, h2, bel_touch h3 h2 ht, h4.touch ht h6, h5.touch ht h7, h6, h7, h8, h9, h10, h11.touch ht h12, h12, h13, h14⟩
theorem sa_add (h : SAO w0 w p G1 G2 s bs vs O os) (i : Nat) (hi : i < s.length) (ht : (s.getD i zp).2 = false) (hall : ∀ j, j < i → (s.getD j zp).2 = true) (v : Int) :
    Calls Try.prog 77 #[.pointer (some ⟨p, 0, none⟩), .int .i64 v] w fun e w' => e = .returned (.int .i64 ((i : Int) + 1)) ∧ SAO w0 w' p G1 G2 (s.set i (v, true)) bs vs O os := by
  obtain ⟨F, h1, h2, h3, h4, h5, h6, h7, h8, h9, h10, h11, h12, h13, h14⟩ := h
  refine (St.obj_add h1 i hi ht hall v).mono ?_
  rintro e w' ⟨rfl, g1, g2⟩
  exact ⟨rfl, SAO.touch h2 h3 h4 h5 h6 h7 h8 h9 h10 h11 h12 h13 h14 g1 g2⟩
theorem sa_add_no (h : SAO w0 w p G1 G2 s bs vs O os) (hall : ∀ j, j < s.length → (s.getD j zp).2 = true) (v : Int) :
    Calls Try.prog 77 #[.pointer (some ⟨p, 0, none⟩), .int .i64 v] w fun e w' => e = .returned (.int .i64 0) ∧ w' = w := by
  obtain ⟨F, h1, _⟩ := h
  exact St.obj_add_no h1 hall v
theorem sa_drop (h : SAO w0 w p G1 G2 s bs vs O os) (i : Nat) (hi : i < s.length) (ht : (s.getD i zp).2 = true) (id : Int) (hid : id = (i : Int) + 1) :
    Calls Try.prog 79 #[.pointer (some ⟨p, 0, none⟩), .int .i64 id] w fun e w' => e = .returned (.bool true) ∧ SAO w0 w' p G1 G2 (s.set i zp) bs vs O os := by
  obtain ⟨F, h1, h2, h3, h4, h5, h6, h7, h8, h9, h10, h11, h12, h13, h14⟩ := h
  refine (St.obj_drop h1 i hi ht id hid).mono ?_
  rintro e w' ⟨rfl, g1, g2⟩
  exact ⟨rfl, SAO.touch h2 h3 h4 h5 h6 h7 h8 h9 h10 h11 h12 h13 h14 g1 g2⟩
theorem sa_drop_no (h : SAO w0 w p G1 G2 s bs vs O os) (id : Int) (hn : ¬ St.taken s id) :
    Calls Try.prog 79 #[.pointer (some ⟨p, 0, none⟩), .int .i64 id] w fun e w' => e = .returned (.bool false) ∧ w' = w := by
  obtain ⟨F, h1, _⟩ := h
  exact St.obj_drop_no h1 id hn
theorem sa_set (h : SAO w0 w p G1 G2 s bs vs O os) (i : Nat) (hi : i < s.length) (ht : (s.getD i zp).2 = true) (id v : Int) (hid : id = (i : Int) + 1) :
    Calls Try.prog 81 #[.pointer (some ⟨p, 0, none⟩), .int .i64 id, .int .i64 v] w fun e w' => e = .returned (.bool true) ∧ SAO w0 w' p G1 G2 (s.set i (v, true)) bs vs O os := by
  obtain ⟨F, h1, h2, h3, h4, h5, h6, h7, h8, h9, h10, h11, h12, h13, h14⟩ := h
  refine (St.obj_set h1 i hi ht id v hid).mono ?_
  rintro e w' ⟨rfl, g1, g2⟩
  exact ⟨rfl, SAO.touch h2 h3 h4 h5 h6 h7 h8 h9 h10 h11 h12 h13 h14 g1 g2⟩
theorem sa_set_no (h : SAO w0 w p G1 G2 s bs vs O os) (id v : Int) (hn : ¬ St.taken s id) :
    Calls Try.prog 81 #[.pointer (some ⟨p, 0, none⟩), .int .i64 id, .int .i64 v] w fun e w' => e = .returned (.bool false) ∧ w' = w := by
  obtain ⟨F, h1, _⟩ := h
  exact St.obj_set_no h1 id v hn
theorem sa_get (h : SAO w0 w p G1 G2 s bs vs O os) (i : Nat) (hi : i < s.length) (ht : (s.getD i zp).2 = true) (id : Int) (hid : id = (i : Int) + 1) {v : Int} (hv : (s.getD i zp).1 = v) :
    Calls Try.prog 80 #[.pointer (some ⟨p, 0, none⟩), .int .i64 id] w fun e w' => e = .returned (.tuple #[.int .i64 v, .bool true]) ∧ w' = w := by
  rw [← hv]
  obtain ⟨F, h1, _⟩ := h
  exact St.obj_get h1 i hi ht id hid
theorem sa_get_no (h : SAO w0 w p G1 G2 s bs vs O os) (id : Int) (hn : ¬ St.taken s id) :
    Calls Try.prog 80 #[.pointer (some ⟨p, 0, none⟩), .int .i64 id] w fun e w' => e = .returned (.tuple #[.int .i64 0, .bool false]) ∧ w' = w := by
  obtain ⟨F, h1, _⟩ := h
  exact St.obj_get_no h1 id hn
theorem sa_ids (h : SA w0 w p G1 G2 s bs vs) :
    Calls Try.prog 78 #[.pointer (some ⟨p, 0, none⟩)] w fun e w' => ∃ A c, e = .returned (.slice A (idsOf s s.length).length c) ∧ SA w0 w' p G1 G2 s bs vs ∧ RowI w' (.slice A (idsOf s s.length).length c) (idsOf s s.length) := by
  have h0 := h
  obtain ⟨F, h1, _⟩ := h
  refine (St.obj_ids h1).mono ?_
  rintro e w' ⟨v, rfl, g1, g2, g3⟩
  obtain ⟨A, c, ev, _⟩ := RowI.open ⟨_, g1⟩
  subst ev
  exact ⟨A, c, rfl, h0.below g3, ⟨_, g1⟩⟩

/-! ### the arrays tell of the seats -/
def LinkS (M : Nat) (s : List P) (bs : List Bool) (vs : List Int) : Prop :=
  s.length = M ∧ bs.length = M + 2 ∧ vs.length = M + 2 ∧ ∀ i, i < M → bs.getD (i + 1) false = (s.getD i zp).2 ∧ ((s.getD i zp).2 = true → vs.getD (i + 1) 0 = (s.getD i zp).1)
theorem getD_setI (vs : List Int) (i k : Nat) (x : Int) (hi : i < vs.length) : (vs.set i x).getD k 0 = if i = k then x else vs.getD k 0 := by
  rw [List.getD_eq_getElem?_getD, List.getD_eq_getElem?_getD, List.getElem?_set]
  by_cases h : i = k
  · rw [if_pos h, if_pos hi, if_pos h]; rfl
  · rw [if_neg h, if_neg h]
theorem LinkS.start (M : Nat) : LinkS M (List.replicate M zp) (List.replicate (M + 2) false) (List.replicate (M + 2) 0) := by
  refine ⟨List.length_replicate, List.length_replicate, List.length_replicate, fun i hi => ?_⟩
  rw [List.getD_eq_getElem?_getD, List.getElem?_replicate, if_pos (by omega), List.getD_eq_getElem?_getD (l := List.replicate M zp), List.getElem?_replicate, if_pos hi]
  exact ⟨rfl, fun c => by cases c⟩
theorem LinkS.put (h : LinkS M s bs vs) (i : Nat) (hi : i < M) (v : Int) : LinkS M (s.set i (v, true)) (bs.set (i + 1) true) (vs.set (i + 1) v) := by
  obtain ⟨h1, h2, h3, h4⟩ := h
  refine ⟨by rw [List.length_set]; exact h1, by rw [List.length_set]; exact h2, by rw [List.length_set]; exact h3, fun k hk => ?_⟩
  rw [getD_setB _ _ _ _ (by omega), getD_setI _ _ _ _ (by omega), getD_set _ _ _ _ (by omega)]
  by_cases e : i = k
  · subst e; rw [if_pos rfl, if_pos rfl, if_pos rfl]; exact ⟨rfl, fun _ => rfl⟩
  · have e1 : ¬ i + 1 = k + 1 := by omega
    rw [if_neg e1, if_neg e1, if_neg e]; exact h4 k hk
theorem LinkS.set (h : LinkS M s bs vs) (i : Nat) (hi : i < M) (ht : (s.getD i zp).2 = true) (v : Int) : LinkS M (s.set i (v, true)) bs (vs.set (i + 1) v) := by
  obtain ⟨h1, h2, h3, h4⟩ := h
  refine ⟨by rw [List.length_set]; exact h1, h2, by rw [List.length_set]; exact h3, fun k hk => ?_⟩
  rw [getD_setI _ _ _ _ (by omega), getD_set _ _ _ _ (by omega)]
  by_cases e : i = k
  · subst e; rw [if_pos rfl, if_pos rfl]; exact ⟨(h4 i hk).1.trans ht, fun _ => rfl⟩
  · have e1 : ¬ i + 1 = k + 1 := by omega
    rw [if_neg e1, if_neg e]; exact h4 k hk
theorem LinkS.drop (h : LinkS M s bs vs) (i : Nat) (hi : i < M) : LinkS M (s.set i zp) (bs.set (i + 1) false) vs := by
  obtain ⟨h1, h2, h3, h4⟩ := h
  refine ⟨by rw [List.length_set]; exact h1, by rw [List.length_set]; exact h2, h3, fun k hk => ?_⟩
  rw [getD_setB _ _ _ _ (by omega), getD_set _ _ _ _ (by omega)]
  by_cases e : i = k
  · subst e; rw [if_pos rfl, if_pos rfl]; exact ⟨rfl, fun c => by cases c⟩
  · have e1 : ¬ i + 1 = k + 1 := by omega
    rw [if_neg e1, if_neg e]; exact h4 k hk
/-- the first one that is free, or as many as there are -/
theorem free_at (s : List P) : ∃ t, t ≤ s.length ∧ (∀ j, j < t → (s.getD j zp).2 = true) ∧ (t < s.length → (s.getD t zp).2 = false) := by
  induction s with
  | nil => exact ⟨0, by simp, fun j hj => by omega, fun h => by simp at h⟩
  | cons x r ih =>
    cases hx : x.2 with
    | false => exact ⟨0, by simp, fun j hj => by omega, fun _ => hx⟩
    | true =>
      obtain ⟨t, h1, h2, h3⟩ := ih
      refine ⟨t + 1, by simpa using h1, fun j hj => ?_, fun h => h3 (by simpa using h)⟩
      cases j with
      | zero => exact hx
      | succ j => exact h2 j (by omega)
theorem ids_step (s : List P) (t : Nat) : idsOf s (t + 1) = if (s.getD t zp).2 = true then idsOf s t ++ [(t : Int) + 1] else idsOf s t := St.idsOf_succ s t
theorem ids_prefix (s : List P) {t M : Nat} (h : t ≤ M) : ∃ r, idsOf s M = idsOf s t ++ r := by
  induction M with
  | zero => obtain rfl : t = 0 := by omega
            exact ⟨[], by simp⟩
  | succ M ih =>
    by_cases e : t = M + 1
    · subst e; exact ⟨[], by simp⟩
    · obtain ⟨r, hr⟩ := ih (by omega)
      rw [ids_step]
      split
      · exact ⟨r ++ [(M : Int) + 1], by rw [hr, List.append_assoc]⟩
      · exact ⟨r, hr⟩
theorem ids_hit (s : List P) {t M : Nat} (h : t < M) (ht : (s.getD t zp).2 = true) : (idsOf s t).length < (idsOf s M).length ∧ (idsOf s M).getD (idsOf s t).length 0 = (t : Int) + 1 ∧ (idsOf s (t + 1)).length = (idsOf s t).length + 1 := by
  have e1 := ids_step s t
  rw [if_pos ht] at e1
  obtain ⟨r, hr⟩ := ids_prefix s (show t + 1 ≤ M from h)
  rw [e1] at hr
  refine ⟨by rw [hr]; simp, ?_, by rw [e1]; simp⟩
  rw [hr, List.append_assoc, List.getD_eq_getElem?_getD, List.getElem?_append_right (Nat.le_refl _)]
  simp
theorem ids_miss (s : List P) {t : Nat} (ht : (s.getD t zp).2 = false) : (idsOf s (t + 1)).length = (idsOf s t).length := by
  rw [ids_step, if_neg (by rw [ht]; simp)]
theorem ids_few (s : List P) (t : Nat) : (idsOf s t).length ≤ t := by
  unfold idsOf
  rw [List.length_map]
  exact Nat.le_trans (List.length_filter_le _ _) (by simp)
theorem sa_new {W X : World} {n : Nat} (h : S1 w0 w p s) (r1 : W.ownsRow 0 4 1 (.slice (some ⟨w.heap.size, 0, none⟩) n n) n (madeCells (Value.bool false).cells (n * 1)).toList) (r2 : w.grownBy W none)
    (q1 : X.ownsRow 0 3 1 (.slice (some ⟨W.heap.size, 0, none⟩) n n) n (madeCells (Value.int .i64 0).cells (n * 1)).toList) (q2 : W.grownBy X none) : SA w0 X p w.heap.size W.heap.size s (List.replicate n false) (List.replicate n 0) := by
  obtain ⟨F, h1, h2, h3⟩ := h
  have b1 : Below w.heap.size w W := ⟨r2.os, r2.tape, r2.output, r2.size, fun k hk => r2.block k hk (by simp)⟩
  have b2 : Below W.heap.size W X := ⟨q2.os, q2.tape, q2.output, q2.size, fun k hk => q2.block k hk (by simp)⟩
  have a1 : ArrV W w.heap.size 4 ((List.replicate n false).map Value.bool) := by rw [List.map_replicate]; exact arr_made rfl r1
  have a2 : ArrV X W.heap.size 3 ((List.replicate n (0 : Int)).map (Value.int .i64)) := by rw [List.map_replicate]; exact arr_made rfl q1
  have l1 := a1.lt
  exact ⟨F, (h1.below b1).below b2, h2, bel_more (bel_more h3 b1) b2, a1.below b2, a2, fun c => absurd (h1.lt c) (Nat.lt_irrefl _), fun c => absurd ((h1.below b1).lt c) (Nat.lt_irrefl _), by omega, h3.size, Nat.le_trans h3.size b1.size⟩
theorem sa_new' {W X : World} {n : Nat} (h : S1 w0 w p s) (q1 : W.ownsRow 0 3 1 (.slice (some ⟨w.heap.size, 0, none⟩) n n) n (madeCells (Value.int .i64 0).cells (n * 1)).toList) (q2 : w.grownBy W none)
    (r1 : X.ownsRow 0 4 1 (.slice (some ⟨W.heap.size, 0, none⟩) n n) n (madeCells (Value.bool false).cells (n * 1)).toList) (r2 : W.grownBy X none) : SA w0 X p W.heap.size w.heap.size s (List.replicate n false) (List.replicate n 0) := by
  obtain ⟨F, h1, h2, h3⟩ := h
  have b1 : Below w.heap.size w W := ⟨q2.os, q2.tape, q2.output, q2.size, fun k hk => q2.block k hk (by simp)⟩
  have b2 : Below W.heap.size W X := ⟨r2.os, r2.tape, r2.output, r2.size, fun k hk => r2.block k hk (by simp)⟩
  have a1 : ArrV W w.heap.size 3 ((List.replicate n (0 : Int)).map (Value.int .i64)) := by rw [List.map_replicate]; exact arr_made rfl q1
  have a2 : ArrV X W.heap.size 4 ((List.replicate n false).map Value.bool) := by rw [List.map_replicate]; exact arr_made rfl r1
  have l1 := a1.lt
  exact ⟨F, (h1.below b1).below b2, h2, bel_more (bel_more h3 b1) b2, a2, a1.below b2, fun c => absurd ((h1.below b1).lt c) (Nat.lt_irrefl _), fun c => absurd (h1.lt c) (Nat.lt_irrefl _), by omega, Nat.le_trans h3.size b1.size, h3.size⟩
end
end Go.Proofs.Ytpmamgdblbplcaa.On
