/- The reference's heap in memory: a row of records of three numbers. -/
import Derived.Test.YtpmamgdblbplcaaBand
import Derived.Test.YtpmamgdblbplcaaOps
import Derived.Deep.Upon
import Derived.IntWalk
import Derived.Deep.AppendSrc
namespace Go.Proofs.Ytpmamgdblbplcaa.Rf
open Go.RowKit Go.Proofs.Ytpmamgdblbplcaa.HeapModel
open Go.Proofs.YtpmamgdblbplcaaW.PrintWords (QRow q_of_own q_move q_lt q_cells q_drop q_take q_append cut_from cut_to q_slice q_typed)
open Go.Proofs.Ytpmamgdblbplcaa.Hp (blk_set blk_cell blk_frozen below_drewN)
open Go.Proofs.Ytpmamgdblbplcaa.On (add_more iEq ArrV)
set_option linter.unusedVariables false
set_option linter.unusedSimpArgs false
theorem inf111 : (Try.prog.info? 111).map (fun i => (i.zero, i.size, i.bytes)) = some (some (.agg #[.int .i64 0, .int .i64 0, .int .i64 0]), 3, 24) := by kernel_rfl
def sc (x : It Int) : List Value := [.int .i64 x.v, .int .i64 x.a, .int .i64 x.b]
def cellsOf (s : List (It Int)) : List Value := s.flatMap sc
theorem cellsOf_length (s : List (It Int)) : (cellsOf s).length = s.length * 3 := by
  induction s with
  | nil => rfl
  | cons x t ih => simp only [cellsOf, List.flatMap_cons, List.length_append] at ih ⊢; rw [ih]; simp [sc]; omega
theorem cellsOf_get (s : List (It Int)) (j f : Nat) (hj : j < s.length) (hf : f < 3) : (cellsOf s)[j * 3 + f]? = (sc s[j])[f]? := by
  induction s generalizing j with
  | nil => simp at hj
  | cons x t ih =>
    cases j with
    | zero =>
      simp only [cellsOf, List.flatMap_cons, Nat.zero_mul, Nat.zero_add, List.getElem_cons_zero]
      rw [List.getElem?_append_left (by simp [sc]; omega)]
    | succ j =>
      have := ih j (by simpa using hj)
      simp only [cellsOf, List.flatMap_cons, List.getElem_cons_succ] at this ⊢
      rw [List.getElem?_append_right (by simp [sc]; omega), ← this]
      congr 1
      simp [sc]; omega
/-- the reference's heap at p; in it s, in the order in which they were put -/
def FObj (w : World) (F : Nat → Prop) (p : Nat) (room : Int) (s : List (It Int)) : Prop :=
  ∃ A c, w.heap[p]? = some (.cells #[.int .i64 room, .slice A s.length c] 39 (0, 0)) ∧ QRow w 0 111 3 (.slice A s.length c) s.length (cellsOf s) ∧ (Value.slice A s.length c).ownBlock ≠ some p ∧ ∀ k, F k ↔ (k = p ∨ (Value.slice A s.length c).ownBlock = some k)
variable {w : World} {F : Nat → Prop} {p : Nat} {room : Int} {s : List (It Int)}
theorem FObj.lt (h : FObj w F p room s) {k : Nat} (hk : F k) : k < w.heap.size := by
  obtain ⟨A, c, h1, h2, h3, h4⟩ := h
  rcases (h4 k).1 hk with rfl | hk
  · exact (Array.getElem?_eq_some_iff.1 h1).1
  · exact q_lt h2 k hk
theorem FObj.move {w' : World} (h : FObj w F p room s) (hb : ∀ k, F k → w'.heap[k]? = w.heap[k]?) : FObj w' F p room s := by
  obtain ⟨A, c, h1, h2, h3, h4⟩ := h
  exact ⟨A, c, (hb p ((h4 p).2 (Or.inl rfl))).trans h1, q_move h2 (fun k hk => hb k ((h4 k).2 (Or.inr hk))), h3, h4⟩
theorem FObj.below {w' : World} (h : FObj w F p room s) (hb : Below w.heap.size w w') : FObj w' F p room s := h.move (fun k hk => hb.block k (h.lt hk))
theorem FObj.touch {w' : World} {G : Nat → Prop} (h : FObj w F p room s) (ht : Hp.Touch G w w') (hd : ∀ k, F k → ¬ G k) : FObj w' F p room s := h.move (fun k hk => ht.block k (h.lt hk) (hd k hk))
theorem row_cells {A : Option Addr} {c : Nat} (h2 : QRow w 0 111 3 (.slice A s.length c) s.length (cellsOf s)) (hs : 0 < s.length) : ∃ ad, A = some ad ∧ ∀ (w' : World), (∀ k, (Value.slice A s.length c).ownBlock = some k → w'.heap[k]? = w.heap[k]?) → ∀ j (hj : j < s.length), w'.cell? (ad.add (j * 3)) = some (.int .i64 s[j].v) ∧
    w'.cell? ⟨(ad.add (j * 3)).block, (ad.add (j * 3)).off + 1, none⟩ = some (.int .i64 s[j].a) ∧ w'.cell? ⟨(ad.add (j * 3)).block, (ad.add (j * 3)).off + 2, none⟩ = some (.int .i64 s[j].b) := by
  obtain ⟨ad, e, hc⟩ := q_cells h2 hs
  refine ⟨ad, e, fun w' hw j hj => ?_⟩
  obtain ⟨ad', e', hc'⟩ := q_cells (q_move h2 hw) hs
  rw [e] at e'
  injection e' with e'
  subst e'
  refine ⟨hc' (j * 3 + 0) _ ((cellsOf_get s j 0 hj (by omega)).trans rfl), ?_, ?_⟩
  · rw [← add_more ad (j * 3) 1 (by omega)]
    exact hc' (j * 3 + 1) _ ((cellsOf_get s j 1 hj (by omega)).trans rfl)
  · rw [← add_more ad (j * 3) 2 (by omega)]
    exact hc' (j * 3 + 2) _ ((cellsOf_get s j 2 hj (by omega)).trans rfl)

/-! ### at -/
theorem f_at_no (h : FObj w F p room s) (k : Int) (hk : ∀ x ∈ s, x.v ≠ k) (hl : s.length ≤ 1000) :
    Calls Try.prog 88 #[.pointer (some ⟨p, 0, none⟩), .int .i64 k] w fun e w' => e = .returned (.int .i64 (-1)) ∧ w' = w := by
  obtain ⟨A, c, h1, h2, h3, h4⟩ := h
  have c1 := (blk_cell h1 1).trans (rfl : _ = some (Value.slice A s.length c))
  have H2 := Lib.hid h2
  have HK := Lib.hid hk
  have hc := Go.Proofs.YtpmamgdblbplcaaW.PrintWords.q_max h2
  clear h1 h2 h3 h4 hk
  go_enter Try.func88, Try.ntmps88
  go_wp2
  go_loop [5] (fun i => ∃ j : Nat, i = .int .i64 (j : Int) ∧ j ≤ s.length) (fun i => 1001 - (intOf i).toNat)
  case atStart => exact ⟨0, rfl, by omega⟩
  case round =>
    obtain ⟨j, rfl, hj⟩ := hrel
    by_cases hlt : (j : Int) < (s.length : Int)
    · obtain ⟨ad, rfl, hc⟩ := row_cells H2.out (by omega)
      obtain ⟨k0, -, -⟩ := hc w (fun _ _ => rfl) j (by omega)
      have hne : s[j].v ≠ k := HK.out _ (List.getElem_mem _)
      obtain ⟨v, hv⟩ : ∃ v, s[j].v = v := ⟨_, rfl⟩
      rw [hv] at k0 hne
      have hb : (v == k) = false := by simpa using hne
      have hjl : (j : Int) < (s.length : Int) := hlt
      clear hv hne hc
      go_wp2
      exact ⟨⟨j + 1, iEq (by omega), by omega⟩, by simp [intOf]; omega⟩
    · go_wp2
      go_ret
      exact ⟨rfl, rfl⟩
theorem f_at_yes (h : FObj w F p room s) (k : Int) (i : Nat) (hi : i < s.length) (hk : s[i].v = k) (hn : ∀ j (hj : j < i), s[j].v ≠ k) (hl : s.length ≤ 1000) :
    Calls Try.prog 88 #[.pointer (some ⟨p, 0, none⟩), .int .i64 k] w fun e w' => e = .returned (.int .i64 (i : Int)) ∧ w' = w := by
  obtain ⟨A, c, h1, h2, h3, h4⟩ := h
  have c1 := (blk_cell h1 1).trans (rfl : _ = some (Value.slice A s.length c))
  have H2 := Lib.hid h2
  have HK := Lib.hid hn
  have HI := Lib.hid hk
  clear h1 h2 h3 h4 hk hn
  go_enter Try.func88, Try.ntmps88
  go_wp2
  go_loop [5] (fun i' => ∃ j : Nat, i' = .int .i64 (j : Int) ∧ j ≤ i) (fun i => 1001 - (intOf i).toNat)
  case atStart => exact ⟨0, rfl, by omega⟩
  case round =>
    obtain ⟨j, rfl, hj⟩ := hrel
    have hjl : (j : Int) < (s.length : Int) := by omega
    obtain ⟨ad, rfl, hc⟩ := row_cells H2.out (by omega)
    obtain ⟨k0, -, -⟩ := hc w (fun _ _ => rfl) j (by omega)
    obtain ⟨v, hv⟩ : ∃ v, s[j].v = v := ⟨_, rfl⟩
    rw [hv] at k0
    by_cases hji : j = i
    · subst hji
      have hb : (v == k) = true := by rw [← hv, HI.out]; simp
      clear hv hc
      go_wp2
      go_ret
      exact ⟨rfl, rfl⟩
    · have hb : (v == k) = false := by
        have := HK.out j (by omega)
        rw [hv] at this
        simpa using this
      clear hv hc
      go_wp2
      exact ⟨⟨j + 1, iEq (by omega), by omega⟩, by simp [intOf]; omega⟩

/-! ### out -/
theorem step_append_run {P : Program} {ops : Array Oper} {o : Oper} {Q : Exit → Act → World → Prop} {K : Act → World → Prop} {E : Prop} {a : Act} {W w' : World} {v u v' : Value} (hgd : o.guard = none) (s x : Operand) (t : TypeId)
    (ho : o.op = .call { callee := .builtin .append, args := #[s, x], argTypes := #[t, t] }) (hs : a.eval s = v) (hx : a.eval x = u)
    (hr : (Builtin.append_ #[t, t] o.type #[v, u]).run P W = .ok v' w') (h : K (a.put o.dst v') w') : if Region.wanted o (yielded ops a.tmps) = true then Oper.wp P o a W K Q else E := by
  have hw : Region.wanted o (yielded ops a.tmps) = true := by simp [Region.wanted, hgd]
  rw [if_pos hw]
  unfold Oper.wp execOp
  simp only [ho, resolve, invoke, builtin, Sem.run_bind, Sem.run_pure, Result.andThen_ok, List.map_toArray, List.map_cons, List.map_nil, hs, hx, hr]
  exact h
theorem sc_one (s : List (It Int)) : ∀ u ∈ cellsOf s, u.oneCell' = true := by
  intro u hu
  simp only [cellsOf, List.mem_flatMap] at hu
  obtain ⟨x, _, hx⟩ := hu
  simp only [sc, List.mem_cons, List.not_mem_nil, or_false] at hx
  rcases hx with rfl | rfl | rfl <;> rfl
theorem row_append (w : World) {A : Option Addr} {n c : Nat} {xs : List Value} (hq : QRow w 0 111 3 (.slice A n c) n xs) {B : Option Addr} {m c2 : Nat} {news : List Value} (hl : news.length = m * 3)
    (hnews : 0 < m → ∃ ad, B = some ad ∧ ∀ j u, news[j]? = some u → w.cell? (ad.add j) = some u) (h1 : ∀ u ∈ news, u.oneCell' = true) (hnc : n ≤ c) (hsm : n + m ≤ 2000) (hB : m = 0 → c2 = 0 ∨ ∃ ad, B = some ad) :
    ∃ A' c' w', (Builtin.append_ #[37, 37] 37 #[.slice A n c, .slice B m c2]).run Try.prog w = .ok (.slice A' (n + m) c') w' ∧ QRow w' 0 111 3 (.slice A' (n + m) c') (n + m) (xs ++ news) ∧ w.grownBy w' (Value.slice A n c).ownBlock ∧ ((Value.slice A' (n + m) c').ownBlock = (Value.slice A n c).ownBlock ∨ ∃ b, (Value.slice A' (n + m) c').ownBlock = some b ∧ w.heap.size ≤ b) := by
  obtain ⟨i0, hi, hz0, hz1, hz2⟩ := info_parts inf111
  by_cases hm : 0 < m
  · obtain ⟨ad, rfl, hc⟩ := hnews hm
    obtain ⟨v', w', hr, h2, h3, h4⟩ := q_append (P := Try.prog) w 0 37 37 111 i0 _ 3 24 Try.underlying37 hi hz0 hz1 hz2 rfl (by omega) _ _ _ hq ad m c2 news hl hc h1 hm (by unfold maxLen; omega) (by omega) (Nat.zero_le _)
    obtain ⟨A', c', e, _⟩ := q_slice h2
    subst e
    exact ⟨A', c', w', hr, h2, h3, h4⟩
  · obtain rfl : m = 0 := by omega
    obtain rfl : news = [] := List.length_eq_zero_iff.1 (by omega)
    have hsrc : Src Try.prog i0.size 37 (.slice B 0 c2) 0 [] w := by
      cases B with
      | none => exact Src.ofNil w Try.underlying37 c2
      | some ad => exact Src.ofSlice w Try.underlying37 ad 0 c2 [] (by simp) (fun j u hu => by simp at hu) (fun u hu => by cases hu)
    have hr := run_append_nothing (P := Try.prog) (ty := 37) w 37 37 111 i0 Try.underlying37 hi A n c hnc _ hsrc
    refine ⟨A, c, w, hr, by rw [List.append_nil]; exact hq, ⟨rfl, rfl, rfl, Nat.le_refl _, fun _ _ _ => rfl⟩, Or.inl rfl⟩

theorem cells_take (s : List (It Int)) (i : Nat) (hi : i ≤ s.length) : (cellsOf s).take (i * 3) = cellsOf (s.take i) := by
  have h : cellsOf s = cellsOf (s.take i) ++ cellsOf (s.drop i) := by
    unfold cellsOf
    rw [← List.flatMap_append, List.take_append_drop]
  rw [h]
  exact List.take_left' (by rw [cellsOf_length, List.length_take]; omega)
theorem cells_drop (s : List (It Int)) (i : Nat) (hi : i ≤ s.length) : (cellsOf s).drop (i * 3) = cellsOf (s.drop i) := by
  have h : cellsOf s = cellsOf (s.take i) ++ cellsOf (s.drop i) := by
    unfold cellsOf
    rw [← List.flatMap_append, List.take_append_drop]
  rw [h]
  exact List.drop_left' (by rw [cellsOf_length, List.length_take]; omega)
/-- what the two appends of 'out' do, in whatever world -/
theorem out_runs (W : World) {A : Option Addr} {c i : Nat} {s : List (It Int)} (hq : QRow W 0 111 3 (.slice A s.length c) s.length (cellsOf s)) (hi : i < s.length) (hl : s.length ≤ 1000) :
    ∃ A1 c1 W1 A3 c3 W2, (∀ w : World, (Instr.slice 37 (.slice A s.length c) none (some (.int .i64 (i : Int))) none).run Try.prog w = .ok (.slice A i c) w) ∧
      (Builtin.append_ #[37, 37] 37 #[.slice none 0 0, .slice A i c]).run Try.prog W = .ok (.slice A1 i c1) W1 ∧ W.grownBy W1 none ∧
      (Builtin.append_ #[37, 37] 37 #[.slice A1 i c1, .slice (if c = i + 1 then A else A.map (·.add ((i + 1) * 3))) (s.length - (i + 1)) (c - (i + 1))]).run Try.prog W1 = .ok (.slice A3 (s.eraseIdx i).length c3) W2 ∧
      QRow W2 0 111 3 (.slice A3 (s.eraseIdx i).length c3) (s.eraseIdx i).length (cellsOf (s.eraseIdx i)) ∧ Below W.heap.size W W2 ∧ (∀ k, (Value.slice A3 (s.eraseIdx i).length c3).ownBlock = some k → W.heap.size ≤ k) := by
  obtain ⟨i0, hi0, hz0, hz1, hz2⟩ := info_parts inf111
  have hnc : s.length ≤ c := by
    obtain ⟨A', c', e, h⟩ := q_slice hq
    injection e with _ _ e
    omega
  obtain ⟨ad, eA, _⟩ := q_cells hq (by omega)
  have hcut1 : ∀ w : World, (Instr.slice 37 (.slice A s.length c) none (some (.int .i64 (i : Int))) none).run Try.prog w = .ok (.slice A i c) w := fun w => by
    have := cut_to (P := Try.prog) 37 111 .i64 Try.underlying37 hi0 A s.length c (i : Int) (by omega) (by omega) hnc w
    simpa only [Int.toNat_natCast] using this
  have hnil : QRow W 0 111 3 (.slice none 0 0) 0 [] := q_of_own (World.ownsRow_nil _ _ _ _)
  have q1 := q_take hq (m := i) (by omega)
  rw [cells_take s i (by omega)] at q1
  obtain ⟨A1, c1, W1, r1, o1, g1, b1⟩ := row_append W hnil (B := A) (m := i) (c2 := c) (news := cellsOf (s.take i)) (by rw [cellsOf_length, List.length_take]; omega)
    (fun h => q_cells q1 h) (sc_one _) (by omega) (by omega) (fun _ => Or.inr ⟨ad, eA⟩)
  rw [Nat.zero_add, List.nil_append] at o1
  rw [Nat.zero_add] at r1 b1
  have g1' : W.grownBy W1 none := g1
  have hlow1 : ∀ k, (Value.slice A1 i c1).ownBlock = some k → W.heap.size ≤ k := by
    intro k hk
    rcases b1 with e | ⟨b, e, hb⟩
    · rw [e] at hk; cases hk
    · rw [e] at hk; injection hk with hk; omega
  have hmove : ∀ k, (Value.slice A s.length c).ownBlock = some k → W1.heap[k]? = W.heap[k]? := fun k hk => g1'.block k (q_lt hq k hk) (by simp)
  have q2 := q_drop (q_move hq hmove) (k := i + 1) (by omega)
  rw [cells_drop s (i + 1) (by omega)] at q2
  have hnc1 : i ≤ c1 := by
    obtain ⟨A', c', e, h⟩ := q_slice o1
    injection e with _ _ e
    omega
  obtain ⟨A3, c3, W2, r2, o2, g2, b2⟩ := row_append W1 o1 (B := if c = i + 1 then A else A.map (·.add ((i + 1) * 3))) (m := s.length - (i + 1)) (c2 := c - (i + 1)) (news := cellsOf (s.drop (i + 1))) (by rw [cellsOf_length, List.length_drop])
    (fun h => q_cells q2 h) (sc_one _) hnc1 (by omega) (fun _ => Or.inr (by rw [eA]; split <;> exact ⟨_, rfl⟩))
  have elen : i + (s.length - (i + 1)) = (s.eraseIdx i).length := by rw [List.length_eraseIdx, if_pos hi]; omega
  have ecell : cellsOf (s.take i) ++ cellsOf (s.drop (i + 1)) = cellsOf (s.eraseIdx i) := by
    rw [List.eraseIdx_eq_take_drop_succ]
    unfold cellsOf
    rw [List.flatMap_append]
  rw [elen] at r2 o2 b2
  rw [ecell] at o2
  have hb1 : Below W.heap.size W W1 := ⟨g1'.os, g1'.tape, g1'.output, g1'.size, fun k hk => g1'.block k hk (by simp)⟩
  refine ⟨A1, c1, W1, A3, c3, W2, hcut1, r1, g1', r2, o2, hb1.grown g2 hb1.size hlow1, fun k hk => ?_⟩
  rcases b2 with e | ⟨b, e, hb⟩
  · rw [e] at hk; exact hlow1 k hk
  · rw [e] at hk; injection hk with hk; have := hb1.size; omega
theorem out_post {W2 : World} {A A3 : Option Addr} {c c3 : Nat} (hp : p < w.heap.size) (h1 : w.heap[p]? = some (.cells #[.int .i64 room, .slice A s.length c] 39 (0, 0))) (h3 : (Value.slice A s.length c).ownBlock ≠ some p)
    (h4 : ∀ k, F k ↔ (k = p ∨ (Value.slice A s.length c).ownBlock = some k)) {s' : List (It Int)} (o2 : QRow W2 0 111 3 (.slice A3 s'.length c3) s'.length (cellsOf s')) (b2 : Below w.drew.heap.size w.drew W2)
    (l2 : ∀ k, (Value.slice A3 s'.length c3).ownBlock = some k → w.drew.heap.size ≤ k) (p2 : W2.heap[p]? = w.heap[p]?) :
    (Ending.returned (.tuple #[]) = .returned (.tuple #[])) ∧ ∃ F', FObj (W2.setCell ⟨p, 1, none⟩ (.slice A3 s'.length c3)) F' p room s' ∧ Hp.Touch F w (W2.setCell ⟨p, 1, none⟩ (.slice A3 s'.length c3)) ∧ ∀ k, F' k → F k ∨ w.heap.size ≤ k := by
  have l3 : ∀ k, (Value.slice A3 s'.length c3).ownBlock = some k → w.heap.size ≤ k := l2
  have bw : Below w.heap.size w W2 := ((Below.refl _ w).drew).trans b2
  refine ⟨rfl, fun k => k = p ∨ (Value.slice A3 s'.length c3).ownBlock = some k, ⟨A3, c3, ?_, q_move o2 (fun k hk => Below.heap_setCell _ _ _ _ (fun e => ?_)), fun e => ?_, fun _ => Iff.rfl⟩, (Hp.Touch.of_below (S := F) bw).setCell (p := ⟨p, 1, none⟩) ((h4 p).2 (Or.inl rfl)) _, ?_⟩
  · have := blk_set (p2.trans h1) 1 (.slice A3 s'.length c3)
    exact this
  · have : k = p := e
    have := l3 k hk
    omega
  · have := l3 p e
    omega
  · rintro k (rfl | hk)
    · exact Or.inl ((h4 _).2 (Or.inl rfl))
    · exact Or.inr (l3 k hk)
set_option maxHeartbeats 4000000 in
set_option maxRecDepth 100000 in
theorem f_out (h : FObj w F p room s) (i : Nat) (hi : i < s.length) (hl : s.length ≤ 1000) :
    Calls Try.prog 89 #[.pointer (some ⟨p, 0, none⟩), .int .i64 (i : Int)] w fun e w' => e = .returned (.tuple #[]) ∧ ∃ F', FObj w' F' p room (s.eraseIdx i) ∧ Hp.Touch F w w' ∧ ∀ k, F' k → F k ∨ w.heap.size ≤ k := by
  have h0 := h
  obtain ⟨A, c, h1, h2, h3, h4⟩ := h
  have hp := (Array.getElem?_eq_some_iff.1 h1).1
  obtain ⟨A1, c1, W1, A3, c3, W2, r1, r3, g1, r4, o2, b2, l2⟩ := out_runs w.drew (q_move h2 (fun _ _ => rfl)) hi hl
  have H1 := Lib.hid h1
  have R3 := Lib.hid r3
  have R4 := Lib.hid r4
  have O2 := Lib.hid o2
  have B2 := Lib.hid b2
  have L2 := Lib.hid l2
  have k0 := (blk_cell h1 1).trans (rfl : _ = some (Value.slice A s.length c))
  have p1 : W1.heap[p]? = w.heap[p]? := g1.block p hp (by simp)
  have k1 := (blk_cell (p1.trans h1) 1).trans (rfl : _ = some (Value.slice A s.length c))
  have p2 : W2.heap[p]? = w.heap[p]? := b2.block p hp
  have k2 := (blk_cell (p2.trans h1) 1).trans (rfl : _ = some (Value.slice A s.length c))
  have f2 := blk_frozen (p2.trans h1) 1
  have P2 := Lib.hid p2
  have H3 := Lib.hid h3
  have H4 := Lib.hid h4
  have hil : (i : Int) < (s.length : Int) := by omega
  have e1 : IntKind.i64.wrap ((i : Int) + 1) = (i : Int) + 1 := IntWalk.i64_in _ (by omega)
  have e2 : 0 ≤ (i : Int) + 1 := by omega
  have e3 : ((i : Int) + 1).toNat = i + 1 := by omega
  have e4 : (i : Int) + 1 ≤ (s.length : Int) := by omega
  have e5 : (i : Int) ≤ (s.length : Int) := by omega
  clear h1 h2 h3 h4 g1 r3 r4 o2 b2 l2 p1 p2 h0
  go_enter Try.func89, Try.ntmps89
  go_wp2_with fail
  go_region_law (first | (refine step_append_run (o := ⟨some 11, _, _, _, _, _⟩) (by rfl) _ _ 37 (by rfl) (by rfl) (by rfl) R3.out ?_) | (refine step_append_run (o := ⟨some 19, _, _, _, _, _⟩) (by rfl) _ _ 37 (by rfl) (by rfl) (by rfl) R4.out ?_))
  all_goals
    go_end0
    exact out_post hp H1.out H3.out H4.out O2.out B2.out L2.out P2.out
end Go.Proofs.Ytpmamgdblbplcaa.Rf
