/- The reference's heap in memory: all its functions as an object. -/
import Derived.Test.YtpmamgdblbplcaaRefB
namespace Go.Proofs.Ytpmamgdblbplcaa.Rf
open Go.RowKit Go.Proofs.Ytpmamgdblbplcaa.HeapModel
open Go.Proofs.YtpmamgdblbplcaaW.PrintWords (QRow q_of_own q_move q_lt q_cells q_drop q_take q_append cut_from cut_to q_slice q_typed)
open Go.Proofs.Ytpmamgdblbplcaa.Hp (blk_set blk_cell blk_frozen below_drewN)
open Go.Proofs.Ytpmamgdblbplcaa.On (add_more iEq ArrV)
set_option linter.unusedVariables false
set_option linter.unusedSimpArgs false
variable {w : World} {F : Nat → Prop} {p : Nat} {room : Int} {s : List (It Int)}
theorem find_idx (s : List (It Int)) (k : Int) (h : has s k = true) : ∃ i, ∃ hi : i < s.length, s[i].v = k ∧ ∀ j (hj : j < i), s[j].v ≠ k := by
  induction s with
  | nil => simp [has] at h
  | cons x t ih =>
    by_cases e : x.v = k
    · exact ⟨0, by simp, e, fun j hj => by omega⟩
    · have h2 : has t k = true := by
        obtain ⟨y, hy, ey⟩ := has_iff.1 h
        rcases List.mem_cons.1 hy with rfl | hy
        · exact absurd ey e
        · exact has_iff.2 ⟨y, hy, ey⟩
      obtain ⟨i, hi, h3, h4⟩ := ih h2
      refine ⟨i + 1, by simpa using hi, h3, fun j hj => ?_⟩
      cases j with
      | zero => exact e
      | succ j => exact h4 j (by omega)
theorem erase_without (hk : (s.map (·.v)).Nodup) {i : Nat} (hi : i < s.length) : s.eraseIdx i = without s s[i].v := by
  induction s generalizing i with
  | nil => simp at hi
  | cons x t ih =>
    rw [List.map_cons, List.nodup_cons] at hk
    cases i with
    | zero =>
      have hno : has t x.v = false := by
        rw [Bool.eq_false_iff, ne_eq, has_iff]
        rintro ⟨y, hy, ey⟩
        exact hk.1 (List.mem_map.2 ⟨y, hy, ey⟩)
      have e2 : without (x :: t) x.v = without t x.v := by unfold without; rw [List.filter_cons, if_neg (by simp)]
      simp only [List.eraseIdx_cons_zero, List.getElem_cons_zero]
      rw [e2, without_of_not hno]
    | succ i =>
      have hi' : i < t.length := by simpa using hi
      have hne : ¬ x.v = t[i].v := fun e => hk.1 (List.mem_map.2 ⟨t[i], List.getElem_mem _, e.symm⟩)
      simp only [List.eraseIdx_cons_succ, List.getElem_cons_succ]
      rw [ih hk.2 hi']
      unfold without
      rw [List.filter_cons, if_pos (by simp [hne])]
theorem no_has {k : Int} (h : has s k = false) : ∀ x ∈ s, x.v ≠ k := fun x hx e => by
  have := has_iff.2 ⟨x, hx, e⟩
  rw [h] at this
  cases this

theorem f_new (room : Int) (w : World) (hr : -9223372036854775808 ≤ room ∧ room ≤ 9223372036854775807) :
    Calls Try.prog 24 #[.int .i64 room] w fun e w' => ∃ F p, e = .returned (.pointer (some ⟨p, 0, none⟩)) ∧ FObj w' F p (min (max room 0) 1000) [] ∧ (∀ k, F k → w.heap.size ≤ k) ∧ Below w.heap.size w w' := by
  have fin : ∀ r : Int, r = min (max room 0) 1000 → ∃ F p, (Ending.returned (.pointer (some ⟨w.heap.size, 0, none⟩)) = .returned (.pointer (some ⟨p, 0, none⟩))) ∧ FObj (w.alloc (.cells #[.int .i64 r, .slice none 0 0] 39)) F p (min (max room 0) 1000) [] ∧ (∀ k, F k → w.heap.size ≤ k) ∧ Below w.heap.size w (w.alloc (.cells #[.int .i64 r, .slice none 0 0] 39)) := by
    rintro r rfl
    refine ⟨fun k => k = w.heap.size, w.heap.size, rfl, ⟨none, 0, heap_alloc_new w _, q_of_own (World.ownsRow_nil _ _ _ _), by simp [Value.ownBlock], fun k => by simp [Value.ownBlock]⟩, fun k hk => by omega, (Below.refl _ _).alloc (Nat.le_refl _) _⟩
  have FIN := Lib.hid fin
  clear fin
  have three : (room ≤ 0 ∨ (0 < room ∧ room ≤ 1000)) ∨ 1000 < room := by omega
  rcases three with (t1 | ⟨t1, t2⟩) | t1
  · go_enter Try.func24, Try.ntmps24
    go_wp2
    go_ret
    exact FIN.out _ (by omega)
  · go_enter Try.func24, Try.ntmps24
    go_wp2
    go_ret
    exact FIN.out _ (by omega)
  · go_enter Try.func24, Try.ntmps24
    go_wp2
    go_ret
    exact FIN.out _ (by omega)
theorem f_drop_no (h : FObj w F p room s) (hl : s.length ≤ 1000) (k : Int) (hk : has s k = false) :
    Calls Try.prog 30 #[.pointer (some ⟨p, 0, none⟩), .int .i64 k] w fun e w' => e = .returned (.bool false) ∧ w' = w := by
  have HA := f_at_no h k (no_has hk) hl
  go_enter Try.func30, Try.ntmps30
  go_wp2_with (go_at_call 88; refine HA.mono ?_; rintro e w1 ⟨rfl, rfl⟩)
  go_ret
  exact ⟨rfl, rfl⟩
theorem f_drop_yes (h : FObj w F p room s) (hl : s.length ≤ 1000) (hn : (s.map (·.v)).Nodup) (k : Int) (hk : has s k = true) :
    Calls Try.prog 30 #[.pointer (some ⟨p, 0, none⟩), .int .i64 k] w fun e w' => e = .returned (.bool true) ∧ ∃ F', FObj w' F' p room (without s k) ∧ Hp.Touch F w w' ∧ ∀ b, F' b → F b ∨ w.heap.size ≤ b := by
  obtain ⟨i, hi, h1, h2⟩ := find_idx s k hk
  have HA := f_at_yes h k i hi h1 h2 hl
  have HB := f_out h i hi hl
  rw [erase_without hn hi, h1] at HB
  have HB2 := Lib.hid HB
  clear h1 h2 HB hk hn h
  go_enter Try.func30, Try.ntmps30
  go_wp2_with (first
    | (go_at_call 88; refine HA.mono ?_; rintro e w1 ⟨rfl, rfl⟩)
    | (go_at_call 89; refine HB2.out.mono ?_; rintro e w2 ⟨rfl, F', h5, h6, h7⟩; have H5 := Lib.hid h5; have H6 := Lib.hid h6; have H7 := Lib.hid h7; clear h5 h6 h7))
  go_ret
  exact ⟨rfl, F', H5.out, H6.out, H7.out⟩
/-- one more behind all -/
theorem app_run (h : FObj w F p room s) (x : It Int) (hl : s.length ≤ 1000) : ∃ A c A' c' w', w.cell? ⟨p, 1, none⟩ = some (.slice A s.length c) ∧
    (Builtin.append_ #[37, 37] 37 #[.slice A s.length c, .slice (some ⟨w.heap.size, 0, none⟩) 1 1]).run Try.prog (w.alloc (.cells #[.int .i64 x.v, .int .i64 x.a, .int .i64 x.b] 111)) = .ok (.slice A' (s.length + 1) c') w' ∧
    w'.cell? ⟨p, 1, none⟩ = some (.slice A s.length c) ∧ w'.frozen? ⟨p, 1, none⟩ = false ∧
    ∃ F', FObj (w'.setCell ⟨p, 1, none⟩ (.slice A' (s.length + 1) c')) F' p room (s ++ [x]) ∧ Hp.Touch F w (w'.setCell ⟨p, 1, none⟩ (.slice A' (s.length + 1) c')) ∧ ∀ b, F' b → F b ∨ w.heap.size ≤ b := by
  have hb1 : Below w.heap.size w (w.alloc (.cells #[.int .i64 x.v, .int .i64 x.a, .int .i64 x.b] 111)) := (Below.refl _ _).alloc (Nat.le_refl _) _
  obtain ⟨A, c, h1, h2, h3, h4⟩ := h
  have hp := (Array.getElem?_eq_some_iff.1 h1).1
  have hnc : s.length ≤ c := by
    obtain ⟨A', c', e, h⟩ := q_slice h2
    injection e with _ _ e
    omega
  have h2' := q_move h2 (fun k hk => hb1.block k (q_lt h2 k hk))
  obtain ⟨A', c', w', hr, hq, hg, hat⟩ := row_append _ h2' (B := some ⟨w.heap.size, 0, none⟩) (m := 1) (c2 := 1) (news := sc x) rfl
    (fun _ => ⟨_, rfl, fun j u hu => World.news_of_block (cs := #[.int .i64 x.v, .int .i64 x.a, .int .i64 x.b]) (t := 111) (fr := (0, 0)) (heap_alloc_new w _) j u hu⟩) (fun u hu => by
      simp only [sc, List.mem_cons, List.not_mem_nil, or_false] at hu
      rcases hu with rfl | rfl | rfl <;> rfl) hnc (by omega) (fun c => by omega)
  have pW : (w.alloc (.cells #[.int .i64 x.v, .int .i64 x.a, .int .i64 x.b] 111)).heap[p]? = w.heap[p]? := hb1.block p hp
  have plt : p < (w.alloc (.cells #[.int .i64 x.v, .int .i64 x.a, .int .i64 x.b] 111)).heap.size := Nat.lt_of_lt_of_le hp hb1.size
  have pW' : w'.heap[p]? = w.heap[p]? := (hg.block p plt (fun e => h3 e.symm)).trans pW
  have k1 := (blk_cell h1 1).trans (rfl : _ = some (Value.slice A s.length c))
  have k2 := (blk_cell (pW'.trans h1) 1).trans (rfl : _ = some (Value.slice A s.length c))
  have hnew : ∀ b, (Value.slice A' (s.length + 1) c').ownBlock = some b → (Value.slice A s.length c).ownBlock = some b ∨ w.heap.size ≤ b := by
    intro b hb
    rcases hat with e | ⟨b', e, hle⟩
    · exact Or.inl (e ▸ hb)
    · rw [e] at hb; injection hb with hb; have := hb1.size; exact Or.inr (by omega)
  have hnp : (Value.slice A' (s.length + 1) c').ownBlock ≠ some p := by
    intro e
    rcases hnew p e with c | c
    · exact h3 c
    · omega
  have T : Hp.Touch F w w' := by
    have t1 : Hp.Touch F w (w.alloc (.cells #[.int .i64 x.v, .int .i64 x.a, .int .i64 x.b] 111)) := Hp.Touch.of_below hb1
    exact t1.then (Hp.Touch.of_grown hg) (fun k _ hk => (h4 k).2 (Or.inr hk))
  refine ⟨A, c, A', c', w', k1, hr, k2, blk_frozen (pW'.trans h1) 1, fun k => k = p ∨ (Value.slice A' (s.length + 1) c').ownBlock = some k, ⟨A', c', ?_, ?_, ?_, ?_⟩, T.setCell (p := ⟨p, 1, none⟩) ((h4 p).2 (Or.inl rfl)) _, ?_⟩
  · have := blk_set (pW'.trans h1) 1 (.slice A' (s.length + 1) c')
    rw [List.length_append]
    exact this
  · have e : cellsOf s ++ sc x = cellsOf (s ++ [x]) := by unfold cellsOf; rw [List.flatMap_append]; simp
    rw [e] at hq
    rw [List.length_append]
    exact q_move hq (fun k hk => Below.heap_setCell _ _ _ _ (fun e => by have : k = p := e; rw [this] at hk; exact hnp hk))
  · rw [List.length_append]; exact hnp
  · intro k; rw [List.length_append]; exact Iff.rfl
  · rintro b (rfl | hb)
    · exact Or.inl ((h4 _).2 (Or.inl rfl))
    · rcases hnew b hb with c | c
      · exact Or.inl ((h4 _).2 (Or.inr c))
      · exact Or.inr c
theorem wpList_append_run37 {P : Program} {ops : Array Oper} {o : Oper} {Q : Exit → Act → World → Prop} {rest : List Oper} {a : Act} {W w' : World} {s x : Operand} {v u v' : Value} (hg : o.guard = none)
    (ho : o.op = .call { callee := .builtin .append, args := #[s, x], argTypes := #[37, 37] }) (hs : a.eval s = v) (hx : a.eval x = u)
    (hr : (Builtin.append_ #[37, 37] o.type #[v, u]).run P W = .ok v' w') (h : wpList P ops Q rest (a.put o.dst v') w') : wpList P ops Q (o :: rest) a W := by
  refine wpList_plain hg fun K hK => ?_
  unfold Oper.wp execOp
  simp only [ho, resolve, invoke, builtin, Sem.run_bind, Sem.run_pure, Result.andThen_ok, List.map_toArray, List.map_cons, List.map_nil, hs, hx, hr]
  exact hK _ _ h
theorem f_room_cell (h : FObj w F p room s) : ∃ A c, w.cell? ⟨p, 0, none⟩ = some (.int .i64 room) ∧ w.cell? ⟨p, 1, none⟩ = some (.slice A s.length c) := by
  obtain ⟨A, c, h1, h2, h3, h4⟩ := h
  exact ⟨A, c, blk_cell h1 0, blk_cell h1 1⟩
set_option maxHeartbeats 2000000 in
set_option maxRecDepth 100000 in
theorem f_put_yes (h : FObj w F p room s) (hl : s.length ≤ 1000) (hn : (s.map (·.v)).Nodup) (k a b m : Int) (hk : has s k = true) :
    Calls Try.prog 26 #[.pointer (some ⟨p, 0, none⟩), .int .i64 k, .int .i64 a, .int .i64 b] w fun e w' => e = .returned (.bool true) ∧ ∃ F', FObj w' F' p room (without s k ++ [⟨k, a, b, m⟩]) ∧ Hp.Touch F w w' ∧ ∀ b, F' b → F b ∨ w.heap.size ≤ b := by
  obtain ⟨i, hi, h1, h2⟩ := find_idx s k hk
  have HA := f_at_yes h k i hi h1 h2 hl
  have HB := f_out h i hi hl
  rw [erase_without hn hi, h1] at HB
  have HB2 := Lib.hid HB
  have hlen : (without s k).length ≤ 1000 := Nat.le_trans (List.length_filter_le _ _) hl
  clear h1 h2 HB hk hn h
  go_enter Try.func26, Try.ntmps26
  go_wp2_with (first
    | (go_at_call 88; refine HA.mono ?_; rintro e w1 ⟨rfl, rfl⟩)
    | (go_at_call 89; refine HB2.out.mono ?_; rintro e w2 ⟨rfl, F', h5, h6, h7⟩; obtain ⟨A, c, A', c', w3, k1, hr, k2, kf, F2, g1, g2, g3⟩ := app_run h5 ⟨k, a, b, m⟩ hlen; have HR := Lib.hid hr; have H6 := Lib.hid h6; have H7 := Lib.hid h7; have G1 := Lib.hid g1; have G2 := Lib.hid g2; have G3 := Lib.hid g3; clear h5 h6 h7 hr g1 g2 g3)
    | (at_builtin; refine wpList_append_run37 rfl rfl rfl rfl HR.out ?_))
  go_ret
  refine ⟨rfl, F2, G1.out, H6.out.then G2.out (fun b hb hF => (H7.out b hF).elim id (fun c => absurd hb (by omega))), fun b hb => ?_⟩
  rcases G3.out b hb with c | c
  · exact H7.out b c
  · exact Or.inr (Nat.le_trans H6.out.size c)
set_option maxHeartbeats 2000000 in
set_option maxRecDepth 100000 in
theorem f_put_new (h : FObj w F p room s) (hl : s.length ≤ 1000) (k a b m : Int) (hk : has s k = false) (hr : (s.length : Int) < room) :
    Calls Try.prog 26 #[.pointer (some ⟨p, 0, none⟩), .int .i64 k, .int .i64 a, .int .i64 b] w fun e w' => e = .returned (.bool true) ∧ ∃ F', FObj w' F' p room (without s k ++ [⟨k, a, b, m⟩]) ∧ Hp.Touch F w w' ∧ ∀ b, F' b → F b ∨ w.heap.size ≤ b := by
  have HA := f_at_no h k (no_has hk) hl
  rw [without_of_not hk]
  obtain ⟨A0, c0, r0, r1⟩ := f_room_cell h
  have H0 := Lib.hid h
  clear h hk
  go_enter Try.func26, Try.ntmps26
  go_wp2_with (go_at_call 88; refine HA.mono ?_; rintro e w1 ⟨rfl, rfl⟩)
  go_quiet (fail)
  have hd := H0.out.below (below_drewN w1 nq)
  obtain ⟨A, c, A', c', w3, k1, hr, k2, kf, F2, g1, g2, g3⟩ := app_run hd ⟨k, a, b, m⟩ hl
  have HR := Lib.hid hr
  have G1 := Lib.hid g1
  have G2 := Lib.hid g2
  have G3 := Lib.hid g3
  clear hd hr g1 g2 g3
  go_wp2_with (at_builtin; refine wpList_append_run37 rfl rfl rfl rfl HR.out ?_)
  go_ret
  exact ⟨rfl, F2, G1.out, (Hp.Touch.of_below (S := F) (below_drewN _ _)).then G2.out (fun b _ hF => hF), G3.out⟩
theorem f_put_full (h : FObj w F p room s) (hl : s.length ≤ 1000) (k a b : Int) (hk : has s k = false) (hr : ¬ (s.length : Int) < room) :
    Calls Try.prog 26 #[.pointer (some ⟨p, 0, none⟩), .int .i64 k, .int .i64 a, .int .i64 b] w fun e w' => e = .returned (.bool false) ∧ FObj w' F p room s ∧ Below w.heap.size w w' := by
  have HA := f_at_no h k (no_has hk) hl
  obtain ⟨A0, c0, r0, r1⟩ := f_room_cell h
  have H0 := Lib.hid h
  clear h hk
  go_enter Try.func26, Try.ntmps26
  go_wp2_with (go_at_call 88; refine HA.mono ?_; rintro e w1 ⟨rfl, rfl⟩)
  go_quiet (fail)
  go_wp2
  go_ret
  exact ⟨rfl, H0.out.below (below_drewN _ _), below_drewN _ _⟩
/-- what the row reads at i, in a world where nothing of it has turned -/
theorem f_row_at (h : FObj w F p room s) {i : Nat} (hi : i < s.length) : ∃ ad c, ∀ w', Below w.heap.size w w' → w'.cell? ⟨p, 1, none⟩ = some (.slice (some ad) s.length c) ∧ w'.cell? (ad.add (i * 3)) = some (.int .i64 s[i].v) ∧
    w'.cell? ⟨(ad.add (i * 3)).block, (ad.add (i * 3)).off + 1, none⟩ = some (.int .i64 s[i].a) ∧ w'.cell? ⟨(ad.add (i * 3)).block, (ad.add (i * 3)).off + 2, none⟩ = some (.int .i64 s[i].b) := by
  obtain ⟨A, c, h1, h2, h3, h4⟩ := h
  obtain ⟨ad, rfl, hr⟩ := row_cells h2 (by omega)
  have hp := (Array.getElem?_eq_some_iff.1 h1).1
  refine ⟨ad, c, fun w' hb => ⟨(blk_cell ((hb.block p hp).trans h1) 1).trans rfl, hr w' (fun k hk => hb.block k (q_lt h2 k hk)) i hi⟩⟩
theorem least_at (hc : HeapModel.chron s) {x : It Int} (hx : least s = some x) : ∃ i, ∃ hi : i < s.length, s[i] = x ∧ ∀ j (hj : j < s.length), Le s[i] s[j] := by
  obtain ⟨h1, h2⟩ := least_spec hx
  obtain ⟨i, hi, e⟩ := List.getElem_of_mem h1
  exact ⟨i, hi, e, fun j hj => by rw [e]; exact h2 _ (List.getElem_mem _)⟩
theorem f_first (h : FObj w F p room s) (hc : HeapModel.chron s) (hl : s.length ≤ 1000) {x : It Int} (hx : least s = some x) :
    Calls Try.prog 34 #[.pointer (some ⟨p, 0, none⟩)] w fun e w' => e = .returned (.tuple #[.int .i64 x.v, .bool true]) ∧ FObj w' F p room s ∧ Below w.heap.size w w' := by
  obtain ⟨i, hi, e, hle⟩ := least_at hc hx
  obtain ⟨ad, c, hr⟩ := f_row_at h hi
  have HA := first_yes h hc i hi hle hl
  have HR := Lib.hid hr
  have H0 := Lib.hid h
  obtain ⟨v, hv⟩ : ∃ v, x.v = v := ⟨_, rfl⟩
  have EV : Hid (s[i].v = v) := Lib.hid (by rw [e]; exact hv)
  rw [hv]
  have hil : (i : Int) < (s.length : Int) := by omega
  clear h hr hle hc e hv hx
  go_enter Try.func34, Try.ntmps34
  go_wp2_with (go_at_call 90; refine HA.mono ?_; rintro e w1 ⟨rfl, hb⟩; obtain ⟨k1, k2, k3, k4⟩ := HR.out w1 hb; rw [EV.out] at k2; have HB := Lib.hid hb; clear hb k3 k4)
  go_ret2
  exact ⟨rfl, H0.out.below HB.out, HB.out⟩
theorem f_first_no (h : FObj w F p room []) : Calls Try.prog 34 #[.pointer (some ⟨p, 0, none⟩)] w fun e w' => e = .returned (.tuple #[.int .i64 0, .bool false]) ∧ w' = w := by
  have HA := first_no h
  go_enter Try.func34, Try.ntmps34
  go_wp2_with (go_at_call 90; refine HA.mono ?_; rintro e w1 ⟨rfl, rfl⟩)
  go_ret2
  exact ⟨rfl, rfl⟩
theorem f_take (h : FObj w F p room s) (hc : HeapModel.chron s) (hn : (s.map (·.v)).Nodup) (hl : s.length ≤ 1000) {x : It Int} (hx : least s = some x) :
    Calls Try.prog 28 #[.pointer (some ⟨p, 0, none⟩)] w fun e w' => e = .returned (.tuple #[.int .i64 x.v, .bool true]) ∧ ∃ F', FObj w' F' p room (without s x.v) ∧ Hp.Touch F w w' ∧ ∀ b, F' b → F b ∨ w.heap.size ≤ b := by
  obtain ⟨i, hi, e, hle⟩ := least_at hc hx
  obtain ⟨ad, c, hr⟩ := f_row_at h hi
  have HA := first_yes h hc i hi hle hl
  have HR := Lib.hid hr
  have H0 := Lib.hid h
  obtain ⟨v, hv⟩ : ∃ v, x.v = v := ⟨_, rfl⟩
  have EV : Hid (s[i].v = v) := Lib.hid (by rw [e]; exact hv)
  have EW : Hid (s.eraseIdx i = without s v) := Lib.hid (by rw [erase_without hn hi, EV.out])
  rw [hv]
  have hil : (i : Int) < (s.length : Int) := by omega
  clear h hr hle hc e hv hx hn
  go_enter Try.func28, Try.ntmps28
  go_wp2_with (first
    | (go_at_call 90; refine HA.mono ?_; rintro e w1 ⟨rfl, hb⟩; obtain ⟨k1, k2, k3, k4⟩ := HR.out w1 hb; rw [EV.out] at k2; have HB := Lib.hid hb; clear hb k3 k4)
    | (go_at_call 89; refine (f_out (H0.out.below HB.out) i hi hl).mono ?_; rintro e w2 ⟨rfl, F', h5, h6, h7⟩; rw [EW.out] at h5; have H5 := Lib.hid h5; have H6 := Lib.hid h6; have H7 := Lib.hid h7; clear h5 h6 h7))
  go_ret2
  exact ⟨rfl, F', H5.out, (Hp.Touch.of_below (S := F) HB.out).then H6.out (fun b _ hF => hF), fun b hb => (H7.out b hb).imp id (fun c => Nat.le_trans HB.out.size c)⟩
theorem f_take_no (h : FObj w F p room []) : Calls Try.prog 28 #[.pointer (some ⟨p, 0, none⟩)] w fun e w' => e = .returned (.tuple #[.int .i64 0, .bool false]) ∧ w' = w := by
  have HA := first_no h
  go_enter Try.func28, Try.ntmps28
  go_wp2_with (go_at_call 90; refine HA.mono ?_; rintro e w1 ⟨rfl, rfl⟩)
  go_ret2
  exact ⟨rfl, rfl⟩
theorem f_key (h : FObj w F p room s) (hl : s.length ≤ 1000) (hn : (s.map (·.v)).Nodup) (x : It Int) (hx : x ∈ s) :
    Calls Try.prog 32 #[.pointer (some ⟨p, 0, none⟩), .int .i64 x.v] w fun e w' => e = .returned (.tuple #[.int .i64 x.a, .int .i64 x.b, .bool true]) ∧ FObj w' F p room s ∧ Below w.heap.size w w' := by
  obtain ⟨i, hi, h1, h2⟩ := find_idx s x.v (has_iff.2 ⟨x, hx, rfl⟩)
  have e : s[i] = x := by
    have := (List.nodup_iff_pairwise_ne.1 hn)
    obtain ⟨j, hj, ej⟩ := List.getElem_of_mem hx
    have hij : i = j := by
      rcases Nat.lt_trichotomy i j with c | c | c
      · have hne := (List.pairwise_iff_getElem.1 this) i j (by simpa using hi) (by simpa using hj) c
        exact absurd (by simp only [List.getElem_map]; rw [h1, ej]) hne
      · exact c
      · exact absurd (by rw [ej]) (h2 j c)
    subst hij
    exact ej
  have HA := f_at_yes h x.v i hi h1 h2 hl
  obtain ⟨ad, c, hr⟩ := f_row_at h hi
  rw [e] at hr
  obtain ⟨xv, xa, xb, xm⟩ := x
  have H0 := Lib.hid h
  obtain ⟨k1, k2, k3, k4⟩ := hr w (Below.refl _ _)
  have hil : (i : Int) < (s.length : Int) := by omega
  clear h hr hn hx h1 h2 e k2
  go_enter Try.func32, Try.ntmps32
  go_wp2_with (go_at_call 88; refine HA.mono ?_; rintro e w1 ⟨rfl, rfl⟩)
  go_quiet (fail)
  go_wp2
  exact bodyPost_ret (v := .tuple #[.int .i64 xa, .int .i64 xb, .bool true]) (by simp [results, Try.results32, go_sem]) rfl ⟨rfl, H0.out.below (below_drewN _ _), below_drewN _ _⟩
theorem f_key_no (h : FObj w F p room s) (hl : s.length ≤ 1000) (k : Int) (hk : has s k = false) :
    Calls Try.prog 32 #[.pointer (some ⟨p, 0, none⟩), .int .i64 k] w fun e w' => e = .returned (.tuple #[.int .i64 0, .int .i64 0, .bool false]) ∧ w' = w := by
  have HA := f_at_no h k (no_has hk) hl
  go_enter Try.func32, Try.ntmps32
  go_wp2_with (go_at_call 88; refine HA.mono ?_; rintro e w1 ⟨rfl, rfl⟩)
  exact bodyPost_ret (v := .tuple #[.int .i64 0, .int .i64 0, .bool false]) (by simp [results, Try.results32, go_sem]) rfl ⟨rfl, rfl⟩
end Go.Proofs.Ytpmamgdblbplcaa.Rf
