/- Lines of numbers and of texts: all their functions. -/
import Derived.Test.YtpmamgdblbplcaaHInt
import Derived.Test.YtpmamgdblbplcaaHBase
import Derived.OneCell
import Derived.OwnWalk
import Derived.Test.YtpmamgdblbplcaaHTxt

/-! YtpmamgdblbplcaaLine -/
namespace Go.Proofs.Ytpmamgdblbplcaa.Ln
open Go.RowKit Go.Proofs.Ytpmamgdblbplcaa.HeapModel
open Go.Proofs.Ytpmamgdblbplcaa.Hp (blk_set heap_drew blk_cell blk_frozen below_drewN)
open Go.Proofs.Ytpmamgdblbplcaa.Hp (HObj firstV fits)
set_option linter.unusedVariables false
set_option linter.unusedSimpArgs false

/-- A line at q over the heap at p -/
def LObj (w : World) (F : Nat → Prop) (q : Nat) (room : Int) (s : List (It Int)) (when : Int) : Prop :=
  ∃ p G, w.heap[q]? = some (.cells #[.pointer (some ⟨p, 0, none⟩)] 140 (0, 0)) ∧ HObj w G p room s when ∧ ¬ G q ∧ ∀ k, F k ↔ (k = q ∨ G k)
variable {w : World} {F : Nat → Prop} {q : Nat} {room : Int} {s : List (It Int)} {when : Int}
theorem LObj.lt (h : LObj w F q room s when) {k : Nat} (hk : F k) : k < w.heap.size := by
  obtain ⟨p, G, h1, h2, h3, h4⟩ := h
  rcases (h4 k).1 hk with rfl | hk
  · exact (Array.getElem?_eq_some_iff.1 h1).1
  · exact h2.lt hk
theorem LObj.move {w' : World} (h : LObj w F q room s when) (hb : ∀ k, F k → w'.heap[k]? = w.heap[k]?) : LObj w' F q room s when := by
  obtain ⟨p, G, h1, h2, h3, h4⟩ := h
  exact ⟨p, G, (hb q ((h4 q).2 (Or.inl rfl))).trans h1, h2.move (fun k hk => hb k ((h4 k).2 (Or.inr hk))), h3, h4⟩
theorem LObj.below {w' : World} (h : LObj w F q room s when) (hb : Below w.heap.size w w') : LObj w' F q room s when := h.move (fun k hk => hb.block k (h.lt hk))
theorem LObj.touch {w' : World} {G : Nat → Prop} (h : LObj w F q room s when) (ht : Hp.Touch G w w') (hd : ∀ k, F k → ¬ G k) : LObj w' F q room s when := h.move (fun k hk => ht.block k (h.lt hk) (hd k hk))
theorem LObj.few (h : LObj w F q room s when) : s.length ≤ 1000 := by
  obtain ⟨p, G, h1, h2, h3, h4⟩ := h
  exact h2.few
theorem LObj.fit (h : LObj w F q room s when) {x : It Int} (hx : x ∈ s) : fits x.v := by
  obtain ⟨p, G, h1, h2, h3, h4⟩ := h
  exact h2.fit hx
theorem LObj.chron (h : LObj w F q room s when) : HeapModel.chron s := by
  obtain ⟨p, G, h1, h2, h3, h4⟩ := h
  exact h2.chron
theorem LObj.keys (h : LObj w F q room s when) : Hp.Keys s := by
  obtain ⟨p, G, h1, h2, h3, h4⟩ := h
  exact h2.keys
theorem all_rep {p : Nat} (h1 : w.heap[q]? = some (.cells #[.pointer (some ⟨p, 0, none⟩)] 140 (0, 0))) : Calls Try.prog 101 #[.pointer (some ⟨q, 0, none⟩)] w fun e w' => e = .returned (.pointer (some ⟨p, 0, none⟩)) ∧ w' = w := by
  have c0 := (blk_cell h1 0).trans (rfl : _ = some (Value.pointer (some ⟨p, 0, none⟩)))
  clear h1
  go_enter Try.func101, Try.ntmps101
  go_wp2
  go_ret
  exact ⟨rfl, rfl⟩
theorem nil_all (w : World) : Calls Try.prog 101 #[.pointer none] w fun e w' => e = .returned (.pointer none) ∧ w' = w := by
  go_enter Try.func101, Try.ntmps101
  go_wp2
  go_ret
  exact ⟨rfl, rfl⟩
theorem obj_put (h : LObj w F q room s when) (k : Int) (a : Int) (hk : fits k) (hw' : when < 4611686018427387904) (hr : has s k = true ∨ (s.length : Int) < room) :
    Calls Try.prog 65 #[.pointer (some ⟨q, 0, none⟩), .int .i64 k, .int .i64 a] w fun e w' => e = .returned (.bool true) ∧
      ∃ F', LObj w' F' q room (without s k ++ [⟨k, a, 0, when + 1⟩]) (when + 1) ∧ Hp.Touch F w w' ∧ ∀ b, F' b → F b ∨ w.heap.size ≤ b := by
  obtain ⟨p, G, h1, h2, h3, h4⟩ := h
  have HA := all_rep h1
  have HB := Lib.hid (Hp.obj_put h2 k a 0 hk hw' hr)
  have lq := (Array.getElem?_eq_some_iff.1 h1).1
  have H1 := Lib.hid h1
  clear h1 h2
  go_enter Try.func65, Try.ntmps65
  go_wp2_with (first
    | (go_at_call 101; refine HA.mono ?_; rintro e w1 ⟨rfl, rfl⟩)
    | (go_at_call 25; refine HB.out.mono ?_; rintro e w1 ⟨rfl, F', h5, h6, h7⟩))
  go_ret
  refine ⟨rfl, fun k => k = q ∨ F' k, ⟨p, F', (h6.block q lq h3).trans H1.out, h5, fun c => ?_, fun _ => Iff.rfl⟩, h6.mono (fun c _ hc => (h4 c).2 (Or.inr hc)), ?_⟩
  · rcases h7 q c with c | c
    · exact h3 c
    · omega
  · rintro b (rfl | hb)
    · exact Or.inl ((h4 _).2 (Or.inl rfl))
    · exact (h7 b hb).imp (fun hb => (h4 b).2 (Or.inr hb)) id
theorem obj_full (h : LObj w F q room s when) (k : Int) (a : Int) (hk : fits k) (hs : has s k = false) (hr : ¬ (s.length : Int) < room) :
    Calls Try.prog 65 #[.pointer (some ⟨q, 0, none⟩), .int .i64 k, .int .i64 a] w fun e w' => e = .returned (.bool false) ∧ LObj w' F q room s when ∧ Below w.heap.size w w' := by
  have h0 := h
  obtain ⟨p, G, h1, h2, h3, h4⟩ := h
  have HA := all_rep h1
  have HB := Lib.hid (Hp.obj_full h2 k a 0 hk hs hr)
  have H0 := Lib.hid h0
  clear h1 h2 h0
  go_enter Try.func65, Try.ntmps65
  go_wp2_with (first
    | (go_at_call 101; refine HA.mono ?_; rintro e w1 ⟨rfl, rfl⟩)
    | (go_at_call 25; refine HB.out.mono ?_; rintro e w1 ⟨rfl, h5, h6⟩))
  go_ret
  exact ⟨rfl, H0.out.below h6, h6⟩
theorem obj_drop (h : LObj w F q room s when) (k : Int) (hk : fits k) :
    Calls Try.prog 68 #[.pointer (some ⟨q, 0, none⟩), .int .i64 k] w fun e w' => e = .returned (.bool (has s k)) ∧ LObj w' F q room (without s k) when ∧ Hp.Touch F w w' := by
  obtain ⟨p, G, h1, h2, h3, h4⟩ := h
  have HA := all_rep h1
  have HB := Lib.hid (Hp.obj_drop h2 k hk)
  have lq := (Array.getElem?_eq_some_iff.1 h1).1
  have H1 := Lib.hid h1
  clear h1 h2
  go_enter Try.func68, Try.ntmps68
  go_wp2_with (first
    | (go_at_call 101; refine HA.mono ?_; rintro e w1 ⟨rfl, rfl⟩)
    | (go_at_call 29; refine HB.out.mono ?_; rintro e w1 ⟨rfl, h5, h6⟩))
  go_ret
  exact ⟨rfl, ⟨p, G, (h6.block q lq h3).trans H1.out, h5, h3, h4⟩, h6.mono (fun c _ hc => (h4 c).2 (Or.inr hc))⟩
theorem obj_len (h : LObj w F q room s when) : Calls Try.prog 67 #[.pointer (some ⟨q, 0, none⟩)] w fun e w' => e = .returned (.int .i64 s.length) ∧ w' = w := by
  obtain ⟨p, G, h1, h2, h3, h4⟩ := h
  have HA := all_rep h1
  have HB := Hp.obj_len h2
  clear h1 h2
  go_enter Try.func67, Try.ntmps67
  go_wp2_with (first
    | (go_at_call 101; refine HA.mono ?_; rintro e w1 ⟨rfl, rfl⟩)
    | (go_at_call 35; refine HB.mono ?_; rintro e w1 ⟨rfl, rfl⟩))
  go_ret
  exact ⟨rfl, rfl⟩
/-- when the next one is due -/
theorem obj_next (h : LObj w F q room s when) {x : It Int} (hx : least s = some x) : Calls Try.prog 69 #[.pointer (some ⟨q, 0, none⟩)] w fun e w' => e = .returned (.tuple #[.int .i64 x.a, .bool true]) ∧ LObj w' F q room s when ∧ Below w.heap.size w w' := by
  have h0 := h
  obtain ⟨p, G, h1, h2, h3, h4⟩ := h
  have HA := all_rep h1
  have HB := Hp.obj_first h2
  have ev : firstV s = x.v := by unfold Hp.firstV; rw [hx]
  rw [ev, hx] at HB
  have HC := Lib.hid (Hp.obj_key h2 x (least_spec hx).1)
  have H0 := Lib.hid h0
  clear h1 h2 h0 hx ev
  obtain ⟨xv, xa, xb, xm⟩ := x
  go_enter Try.func69, Try.ntmps69
  go_wp2_with (first
    | (go_at_call 101; refine HA.mono ?_; rintro e w1 ⟨rfl, rfl⟩)
    | (go_at_call 33; refine HB.mono ?_; rintro e w1 ⟨rfl, rfl⟩)
    | (go_at_call 31; refine HC.out.mono ?_; rintro e w1 ⟨rfl, h5, h6⟩))
  go_ret2
  exact ⟨rfl, H0.out.below h6, h6⟩
theorem obj_next_no (h : LObj w F q room [] when) : Calls Try.prog 69 #[.pointer (some ⟨q, 0, none⟩)] w fun e w' => e = .returned (.tuple #[.int .i64 0, .bool false]) ∧ w' = w := by
  obtain ⟨p, G, h1, h2, h3, h4⟩ := h
  have HA := all_rep h1
  have HB := Hp.obj_first h2
  clear h1 h2
  have e1 : (least ([] : List (It Int))).isSome = false := rfl
  rw [e1] at HB
  go_enter Try.func69, Try.ntmps69
  go_wp2_with (first
    | (go_at_call 101; refine HA.mono ?_; rintro e w1 ⟨rfl, rfl⟩)
    | (go_at_call 33; refine HB.mono ?_; rintro e w1 ⟨rfl, rfl⟩))
  go_ret2
  exact ⟨rfl, rfl⟩
theorem obj_new (room : Int) (w : World) (hr : -9223372036854775808 ≤ room ∧ room ≤ 9223372036854775807) : Calls Try.prog 64 #[.int .i64 room] w fun e w' => ∃ F q, e = .returned (.pointer (some ⟨q, 0, none⟩)) ∧ LObj w' F q (min (max room 0) 1000) [] 0 ∧ (∀ k, F k → w.heap.size ≤ k) ∧ Below w.heap.size w w' := by
  have HB := Hp.obj_new room w hr
  go_enter Try.func64, Try.ntmps64
  go_wp2_with (go_at_call 23; refine HB.mono ?_; rintro e w1 ⟨rfl, h5, h6⟩)
  go_ret
  refine ⟨fun k => k = w1.heap.size ∨ (k = w.heap.size + 1 ∨ k = w.heap.size), w1.heap.size, rfl, ⟨w.heap.size + 1, _, heap_alloc_new w1 _, h5.below ((Below.refl _ _).alloc (Nat.le_refl _) _), ?_, fun _ => Iff.rfl⟩, ?_, h6.alloc h6.size _⟩
  · intro c
    exact absurd (h5.lt c) (Nat.lt_irrefl _)
  · have := h6.size
    rintro k (rfl | rfl | rfl)
    · exact this
    · exact Nat.le_succ _
    · exact Nat.le_refl _

theorem row_touch {w w' : World} {F : Nat → Prop} {base e size n : Nat} {v : Value} {xs : List Value} (h : w.ownsRow base e size v n xs) (ht : Hp.Touch F w w') (hF : ∀ k, F k → k < base) : w'.ownsRow base e size v n xs := by
  refine ⟨h.1, ?_⟩
  rcases h.2 with h2 | ⟨g, cap, cur, h3, h4, h5, h6⟩
  · exact Or.inl h2
  · exact Or.inr ⟨g, cap, cur, h3, h4, (ht.block g (Array.getElem?_eq_some_iff.1 h5).1 (fun q => by have := hF g q; omega)).trans h5, h6⟩
def lenV : Value → Nat
  | .slice _ n _ => n
  | _ => 0
theorem lenV_row {w : World} {base e size n : Nat} {v : Value} {xs : List Value} (h : w.ownsRow base e size v n xs) : lenV v = n := by
  rcases h.2 with ⟨h2, h3⟩ | ⟨g, cap, cur, h3, _⟩
  · rw [h2, h3]; rfl
  · rw [h3]; rfl
theorem info3 : (Try.prog.info? 3).map (fun i => (i.zero, i.size, i.bytes)) = some (some (.int .i64 0), 1, 8) := by kernel_rfl
set_option maxHeartbeats 2000000 in
set_option maxRecDepth 100000 in
theorem obj_due (h : LObj w F q room s when) (now : Int) : Calls Try.prog 66 #[.pointer (some ⟨q, 0, none⟩), .int .i64 now] w fun e w' => ∃ v, e = .returned v ∧ w'.ownsRow w.heap.size 3 1 v (dueM s now).1.length ((dueM s now).1.map (Value.int .i64)) ∧ LObj w' F q room (dueM s now).2 when ∧ Hp.Touch F w w' := by
  obtain ⟨i0, hi, hz0, hz1, hz2⟩ := info_parts info3
  have hfew := h.few
  have HF := Lib.hid (show ∀ k, F k → k < w.heap.size from fun k hk => h.lt hk)
  go_enter Try.func66, Try.ntmps66
  go_wp2
  go_loopw [5] (fun v wr => ∃ (s1 : List (It Int)) (out : List Int), Hid (LObj wr F q room s1 when) ∧ Hid (wr.ownsRow w.heap.size 3 1 v out.length (out.map (Value.int .i64))) ∧ Hid (Hp.Touch F w wr) ∧ Hid (out ++ (dueM s1 now).1 = (dueM s now).1 ∧ (dueM s1 now).2 = (dueM s now).2) ∧ out.length + s1.length ≤ s.length) (fun v _ => 1001 - lenV v)
  case atStart => exact ⟨s, [], Lib.hid h, Lib.hid (World.ownsRow_nil _ _ _ _), Lib.hid (Hp.Touch.refl _ _), Lib.hid ⟨rfl, rfl⟩, by simp⟩
  case round =>
    obtain ⟨s1, out, HO, HR, HT, HE, hlen⟩ := hrel
    clear h
    cases hl : least s1 with
    | none =>
      have e : s1 = [] := least_none.1 hl
      subst e
      have HN := obj_next_no HO.out
      clear hl
      go_wp2_with (go_at_call 69; refine HN.mono ?_; rintro e w1 ⟨rfl, rfl⟩)
      go_ret
      have e2 := dueM_stop (s := ([] : List (It Int))) (now := now) (fun x hx => by cases hx)
      rw [e2] at HE
      refine ⟨_, rfl, ?_, ?_, HT.out⟩
      · rw [← HE.out.1, List.append_nil]; exact HR.out
      · rw [← HE.out.2]; exact HO.out
    | some x =>
      have HN := Lib.hid (obj_next HO.out hl)
      by_cases ha : x.a ≤ now
      · have hna : ¬ x.a > now := by omega
        have STEP := Lib.hid (dueM_step hl ha)
        have hlt := without_lt (least_spec hl).1
        have HL := Lib.hid hl
        have LV := Lib.hid (lenV_row HR.out)
        clear hl
        go_wp2_with (first
          | (go_at_call 69; refine HN.out.mono ?_; rintro e w1 ⟨rfl, h5, h6⟩; obtain ⟨p, G, g1, g2, g3, g4⟩ := h5; have HA := all_rep g1; have HB0 := Hp.obj_take g2; rw [show firstV s1 = x.v by unfold Hp.firstV; rw [HL.out], HL.out] at HB0; have HB := Lib.hid HB0; have lq := (Array.getElem?_eq_some_iff.1 g1).1; have G1 := Lib.hid g1; have G4 := Lib.hid g4; have HW1 := Lib.hid h6; clear g1 g2 g4 h6 HB0)
          | (go_at_call 101; refine HA.mono ?_; rintro e w2 ⟨rfl, rfl⟩)
          | (go_at_call 27; refine HB.out.mono ?_; rintro e w3 ⟨rfl, h7, h8⟩; have H7 := Lib.hid h7; have H8 := Lib.hid h8; have T3 := Lib.hid (HT.out.trans ((Hp.Touch.of_below (S := F) HW1.out).trans (h8.mono (fun c _ hc => (G4.out c).2 (Or.inr hc))))); have R3 := Lib.hid (row_touch (row_touch HR.out (Hp.Touch.of_below (S := F) HW1.out) HF.out) (h8.mono (fun c _ hc => (G4.out c).2 (Or.inr hc))) HF.out); have LO3 : Hid (LObj w3 F q room (without s1 x.v) when) := Lib.hid ⟨p, G, (h8.block q lq g3).trans G1.out, h7, g3, G4.out⟩; clear h7 h8)
          | (at_builtin; refine wpList_append_own _ rfl _ _ 47 rfl w.heap.size 3 i0 (.int .i64 0) 1 8 Try.underlying47 hi hz0 hz1 hz2 rfl (by decide) _ _ _ rfl (R3.out.alloc _) ⟨w3.heap.size, 0, none⟩ 1 1 [.int .i64 x.v] rfl rfl (cell_one_new _ _ _) (by intro u hu; simp at hu; subst hu; rfl) (by unfold maxLen; omega) (by omega) (by have := T3.out.size; simp; omega) ?_; intro v1 w4 hown1 hgrow1 hnil1; have HO1 := Lib.hid hown1; have HG1 := Lib.hid hgrow1; clear hown1 hgrow1 hnil1))
        have HG : Hid ((w3.alloc (.cells #[.int .i64 x.v] 3)).grownBy w4 u5.ownBlock) := Lib.hid HG1.out
        have own : ∀ k, u5.ownBlock = some k → w.heap.size ≤ k := by
          intro k hk
          rcases HR.out.2 with ⟨c2, _⟩ | ⟨g5, cap5, cur5, c2, c4, _⟩
          · rw [c2] at hk; simp [Value.ownBlock] at hk
          · rw [c2] at hk
            have : g5 = k := by simpa [Value.ownBlock] using hk
            omega
        have b1 : Below w3.heap.size w3 (w3.alloc (.cells #[.int .i64 x.v] 3)) := (Below.refl _ _).alloc (Nat.le_refl _) _
        have T4 : Hp.Touch F w w4 := (T3.out.then (Hp.Touch.of_below (S := fun _ => False) b1) (fun _ _ c => c.elim)).then (Hp.Touch.of_grown HG.out) (fun k hk c => absurd (own k c) (by omega))
        have L4 : LObj w4 F q room (without s1 x.v) when := by
          have c1 := LO3.out.below b1
          exact c1.move (fun k hk => HG.out.block k (c1.lt hk) (fun c => by have := own k c.symm; have := HF.out k hk; omega))
        have el : lenV v1 = out.length + 1 := lenV_row HO1.out
        have e0 : lenV u5 = out.length := LV.out
        refine ⟨⟨without s1 x.v, out ++ [x.v], Lib.hid L4, Lib.hid ?_, Lib.hid T4, Lib.hid ?_, by simp; omega⟩, by rw [el, e0]; omega⟩
        · have := HO1.out
          simpa using this
        · have h1 := HE.out
          rw [STEP.out] at h1
          exact ⟨by rw [List.append_assoc]; exact h1.1, h1.2⟩
      · have hna : x.a > now := by omega
        have E2 := Lib.hid (dueM_stop (s := s1) (now := now) (fun y hy => by rw [hl] at hy; injection hy with hy; subst hy; exact ha))
        clear hl
        go_wp2_with (go_at_call 69; refine HN.out.mono ?_; rintro e w1 ⟨rfl, h5, h6⟩)
        go_ret
        rw [E2.out] at HE
        refine ⟨_, rfl, ?_, ?_, HT.out.trans (Hp.Touch.of_below h6)⟩
        · rw [← HE.out.1, List.append_nil]; exact row_touch HR.out (Hp.Touch.of_below (S := F) h6) HF.out
        · rw [← HE.out.2]; exact h5
end Go.Proofs.Ytpmamgdblbplcaa.Ln

/-! YtpmamgdblbplcaaLineS -/
namespace Go.Proofs.Ytpmamgdblbplcaa.Ls
open Go.RowKit Go.Proofs.Ytpmamgdblbplcaa.HeapModel
open Go.Proofs.Ytpmamgdblbplcaa.Hp (blk_set heap_drew blk_cell blk_frozen below_drewN)
open Go.Proofs.Ytpmamgdblbplcaa.Hs (HObj firstV fits)
set_option linter.unusedVariables false
set_option linter.unusedSimpArgs false

/-- A line at q over the heap at p -/
def LObj (w : World) (F : Nat → Prop) (q : Nat) (room : Int) (s : List (It ByteArray)) (when : Int) : Prop :=
  ∃ p G, w.heap[q]? = some (.cells #[.pointer (some ⟨p, 0, none⟩)] 143 (0, 0)) ∧ HObj w G p room s when ∧ ¬ G q ∧ ∀ k, F k ↔ (k = q ∨ G k)
variable {w : World} {F : Nat → Prop} {q : Nat} {room : Int} {s : List (It ByteArray)} {when : Int}
theorem LObj.lt (h : LObj w F q room s when) {k : Nat} (hk : F k) : k < w.heap.size := by
  obtain ⟨p, G, h1, h2, h3, h4⟩ := h
  rcases (h4 k).1 hk with rfl | hk
  · exact (Array.getElem?_eq_some_iff.1 h1).1
  · exact h2.lt hk
theorem LObj.move {w' : World} (h : LObj w F q room s when) (hb : ∀ k, F k → w'.heap[k]? = w.heap[k]?) : LObj w' F q room s when := by
  obtain ⟨p, G, h1, h2, h3, h4⟩ := h
  exact ⟨p, G, (hb q ((h4 q).2 (Or.inl rfl))).trans h1, h2.move (fun k hk => hb k ((h4 k).2 (Or.inr hk))), h3, h4⟩
theorem LObj.below {w' : World} (h : LObj w F q room s when) (hb : Below w.heap.size w w') : LObj w' F q room s when := h.move (fun k hk => hb.block k (h.lt hk))
theorem LObj.touch {w' : World} {G : Nat → Prop} (h : LObj w F q room s when) (ht : Hp.Touch G w w') (hd : ∀ k, F k → ¬ G k) : LObj w' F q room s when := h.move (fun k hk => ht.block k (h.lt hk) (hd k hk))
theorem LObj.few (h : LObj w F q room s when) : s.length ≤ 1000 := by
  obtain ⟨p, G, h1, h2, h3, h4⟩ := h
  exact h2.few
theorem LObj.fit (h : LObj w F q room s when) {x : It ByteArray} (hx : x ∈ s) : fits x.v := by
  obtain ⟨p, G, h1, h2, h3, h4⟩ := h
  exact h2.fit hx
theorem LObj.chron (h : LObj w F q room s when) : HeapModel.chron s := by
  obtain ⟨p, G, h1, h2, h3, h4⟩ := h
  exact h2.chron
theorem LObj.keys (h : LObj w F q room s when) : Hs.Keys s := by
  obtain ⟨p, G, h1, h2, h3, h4⟩ := h
  exact h2.keys
theorem all_rep {p : Nat} (h1 : w.heap[q]? = some (.cells #[.pointer (some ⟨p, 0, none⟩)] 143 (0, 0))) : Calls Try.prog 102 #[.pointer (some ⟨q, 0, none⟩)] w fun e w' => e = .returned (.pointer (some ⟨p, 0, none⟩)) ∧ w' = w := by
  have c0 := (blk_cell h1 0).trans (rfl : _ = some (Value.pointer (some ⟨p, 0, none⟩)))
  clear h1
  go_enter Try.func102, Try.ntmps102
  go_wp2
  go_ret
  exact ⟨rfl, rfl⟩
theorem nil_all (w : World) : Calls Try.prog 102 #[.pointer none] w fun e w' => e = .returned (.pointer none) ∧ w' = w := by
  go_enter Try.func102, Try.ntmps102
  go_wp2
  go_ret
  exact ⟨rfl, rfl⟩
theorem obj_put (h : LObj w F q room s when) (k : ByteArray) (a : Int) (hk : fits k) (hw' : when < 4611686018427387904) (hr : has s k = true ∨ (s.length : Int) < room) :
    Calls Try.prog 71 #[.pointer (some ⟨q, 0, none⟩), .string k, .int .i64 a] w fun e w' => e = .returned (.bool true) ∧
      ∃ F', LObj w' F' q room (without s k ++ [⟨k, a, 0, when + 1⟩]) (when + 1) ∧ Hp.Touch F w w' ∧ ∀ b, F' b → F b ∨ w.heap.size ≤ b := by
  obtain ⟨p, G, h1, h2, h3, h4⟩ := h
  have HA := all_rep h1
  have HB := Lib.hid (Hs.obj_put h2 k a 0 hk hw' hr)
  have lq := (Array.getElem?_eq_some_iff.1 h1).1
  have H1 := Lib.hid h1
  clear h1 h2
  go_enter Try.func71, Try.ntmps71
  go_wp2_with (first
    | (go_at_call 102; refine HA.mono ?_; rintro e w1 ⟨rfl, rfl⟩)
    | (go_at_call 47; refine HB.out.mono ?_; rintro e w1 ⟨rfl, F', h5, h6, h7⟩))
  go_ret
  refine ⟨rfl, fun k => k = q ∨ F' k, ⟨p, F', (h6.block q lq h3).trans H1.out, h5, fun c => ?_, fun _ => Iff.rfl⟩, h6.mono (fun c _ hc => (h4 c).2 (Or.inr hc)), ?_⟩
  · rcases h7 q c with c | c
    · exact h3 c
    · omega
  · rintro b (rfl | hb)
    · exact Or.inl ((h4 _).2 (Or.inl rfl))
    · exact (h7 b hb).imp (fun hb => (h4 b).2 (Or.inr hb)) id
theorem obj_full (h : LObj w F q room s when) (k : ByteArray) (a : Int) (hk : fits k) (hs : has s k = false) (hr : ¬ (s.length : Int) < room) :
    Calls Try.prog 71 #[.pointer (some ⟨q, 0, none⟩), .string k, .int .i64 a] w fun e w' => e = .returned (.bool false) ∧ LObj w' F q room s when ∧ Below w.heap.size w w' := by
  have h0 := h
  obtain ⟨p, G, h1, h2, h3, h4⟩ := h
  have HA := all_rep h1
  have HB := Lib.hid (Hs.obj_full h2 k a 0 hk hs hr)
  have H0 := Lib.hid h0
  clear h1 h2 h0
  go_enter Try.func71, Try.ntmps71
  go_wp2_with (first
    | (go_at_call 102; refine HA.mono ?_; rintro e w1 ⟨rfl, rfl⟩)
    | (go_at_call 47; refine HB.out.mono ?_; rintro e w1 ⟨rfl, h5, h6⟩))
  go_ret
  exact ⟨rfl, H0.out.below h6, h6⟩
theorem obj_drop (h : LObj w F q room s when) (k : ByteArray) (hk : fits k) :
    Calls Try.prog 75 #[.pointer (some ⟨q, 0, none⟩), .string k] w fun e w' => e = .returned (.bool (has s k)) ∧ LObj w' F q room (without s k) when ∧ Hp.Touch F w w' := by
  obtain ⟨p, G, h1, h2, h3, h4⟩ := h
  have HA := all_rep h1
  have HB := Lib.hid (Hs.obj_drop h2 k hk)
  have lq := (Array.getElem?_eq_some_iff.1 h1).1
  have H1 := Lib.hid h1
  clear h1 h2
  go_enter Try.func75, Try.ntmps75
  go_wp2_with (first
    | (go_at_call 102; refine HA.mono ?_; rintro e w1 ⟨rfl, rfl⟩)
    | (go_at_call 94; refine HB.out.mono ?_; rintro e w1 ⟨rfl, h5, h6⟩))
  go_ret
  exact ⟨rfl, ⟨p, G, (h6.block q lq h3).trans H1.out, h5, h3, h4⟩, h6.mono (fun c _ hc => (h4 c).2 (Or.inr hc))⟩
theorem obj_len (h : LObj w F q room s when) : Calls Try.prog 74 #[.pointer (some ⟨q, 0, none⟩)] w fun e w' => e = .returned (.int .i64 s.length) ∧ w' = w := by
  obtain ⟨p, G, h1, h2, h3, h4⟩ := h
  have HA := all_rep h1
  have HB := Hs.obj_len h2
  clear h1 h2
  go_enter Try.func74, Try.ntmps74
  go_wp2_with (first
    | (go_at_call 102; refine HA.mono ?_; rintro e w1 ⟨rfl, rfl⟩)
    | (go_at_call 51; refine HB.mono ?_; rintro e w1 ⟨rfl, rfl⟩))
  go_ret
  exact ⟨rfl, rfl⟩
/-- when the next one is due -/
theorem obj_next (h : LObj w F q room s when) {x : It ByteArray} (hx : least s = some x) : Calls Try.prog 73 #[.pointer (some ⟨q, 0, none⟩)] w fun e w' => e = .returned (.tuple #[.int .i64 x.a, .bool true]) ∧ LObj w' F q room s when ∧ Below w.heap.size w w' := by
  have h0 := h
  obtain ⟨p, G, h1, h2, h3, h4⟩ := h
  have HA := all_rep h1
  have HB := Hs.obj_first h2
  have ev : firstV s = x.v := by unfold Hs.firstV; rw [hx]
  rw [ev, hx] at HB
  have HC := Lib.hid (Hs.obj_key h2 x (least_spec hx).1)
  have H0 := Lib.hid h0
  clear h1 h2 h0 hx ev
  obtain ⟨xv, xa, xb, xm⟩ := x
  go_enter Try.func73, Try.ntmps73
  go_wp2_with (first
    | (go_at_call 102; refine HA.mono ?_; rintro e w1 ⟨rfl, rfl⟩)
    | (go_at_call 83; refine HB.mono ?_; rintro e w1 ⟨rfl, rfl⟩)
    | (go_at_call 103; refine HC.out.mono ?_; rintro e w1 ⟨rfl, h5, h6⟩))
  go_ret2
  exact ⟨rfl, H0.out.below h6, h6⟩
theorem obj_next_no (h : LObj w F q room [] when) : Calls Try.prog 73 #[.pointer (some ⟨q, 0, none⟩)] w fun e w' => e = .returned (.tuple #[.int .i64 0, .bool false]) ∧ w' = w := by
  obtain ⟨p, G, h1, h2, h3, h4⟩ := h
  have HA := all_rep h1
  have HB := Hs.obj_first h2
  clear h1 h2
  have e1 : (least ([] : List (It ByteArray))).isSome = false := rfl
  rw [e1] at HB
  go_enter Try.func73, Try.ntmps73
  go_wp2_with (first
    | (go_at_call 102; refine HA.mono ?_; rintro e w1 ⟨rfl, rfl⟩)
    | (go_at_call 83; refine HB.mono ?_; rintro e w1 ⟨rfl, rfl⟩))
  go_ret2
  exact ⟨rfl, rfl⟩
theorem obj_new (room : Int) (w : World) (hr : -9223372036854775808 ≤ room ∧ room ≤ 9223372036854775807) : Calls Try.prog 70 #[.int .i64 room] w fun e w' => ∃ F q, e = .returned (.pointer (some ⟨q, 0, none⟩)) ∧ LObj w' F q (min (max room 0) 1000) [] 0 ∧ (∀ k, F k → w.heap.size ≤ k) ∧ Below w.heap.size w w' := by
  have HB := Hs.obj_new room w hr
  go_enter Try.func70, Try.ntmps70
  go_wp2_with (go_at_call 45; refine HB.mono ?_; rintro e w1 ⟨rfl, h5, h6⟩)
  go_ret
  refine ⟨fun k => k = w1.heap.size ∨ (k = w.heap.size + 1 ∨ k = w.heap.size), w1.heap.size, rfl, ⟨w.heap.size + 1, _, heap_alloc_new w1 _, h5.below ((Below.refl _ _).alloc (Nat.le_refl _) _), ?_, fun _ => Iff.rfl⟩, ?_, h6.alloc h6.size _⟩
  · intro c
    exact absurd (h5.lt c) (Nat.lt_irrefl _)
  · have := h6.size
    rintro k (rfl | rfl | rfl)
    · exact this
    · exact Nat.le_succ _
    · exact Nat.le_refl _

theorem row_touch {w w' : World} {F : Nat → Prop} {base e size n : Nat} {v : Value} {xs : List Value} (h : w.ownsRow base e size v n xs) (ht : Hp.Touch F w w') (hF : ∀ k, F k → k < base) : w'.ownsRow base e size v n xs := by
  refine ⟨h.1, ?_⟩
  rcases h.2 with h2 | ⟨g, cap, cur, h3, h4, h5, h6⟩
  · exact Or.inl h2
  · exact Or.inr ⟨g, cap, cur, h3, h4, (ht.block g (Array.getElem?_eq_some_iff.1 h5).1 (fun q => by have := hF g q; omega)).trans h5, h6⟩
def lenV : Value → Nat
  | .slice _ n _ => n
  | _ => 0
theorem lenV_row {w : World} {base e size n : Nat} {v : Value} {xs : List Value} (h : w.ownsRow base e size v n xs) : lenV v = n := by
  rcases h.2 with ⟨h2, h3⟩ | ⟨g, cap, cur, h3, _⟩
  · rw [h2, h3]; rfl
  · rw [h3]; rfl
theorem info9 : (Try.prog.info? 9).map (fun i => (i.zero, i.size, i.bytes)) = some (some (.string ByteArray.empty), 1, 16) := by kernel_rfl
set_option maxHeartbeats 2000000 in
set_option maxRecDepth 100000 in
theorem obj_due (h : LObj w F q room s when) (now : Int) : Calls Try.prog 72 #[.pointer (some ⟨q, 0, none⟩), .int .i64 now] w fun e w' => ∃ v, e = .returned v ∧ w'.ownsRow w.heap.size 9 1 v (dueM s now).1.length ((dueM s now).1.map Value.string) ∧ LObj w' F q room (dueM s now).2 when ∧ Hp.Touch F w w' := by
  obtain ⟨i0, hi, hz0, hz1, hz2⟩ := info_parts info9
  have hfew := h.few
  have HF := Lib.hid (show ∀ k, F k → k < w.heap.size from fun k hk => h.lt hk)
  go_enter Try.func72, Try.ntmps72
  go_wp2
  go_loopw [5] (fun v wr => ∃ (s1 : List (It ByteArray)) (out : List ByteArray), Hid (LObj wr F q room s1 when) ∧ Hid (wr.ownsRow w.heap.size 9 1 v out.length (out.map Value.string)) ∧ Hid (Hp.Touch F w wr) ∧ Hid (out ++ (dueM s1 now).1 = (dueM s now).1 ∧ (dueM s1 now).2 = (dueM s now).2) ∧ out.length + s1.length ≤ s.length) (fun v _ => 1001 - lenV v)
  case atStart => exact ⟨s, [], Lib.hid h, Lib.hid (World.ownsRow_nil _ _ _ _), Lib.hid (Hp.Touch.refl _ _), Lib.hid ⟨rfl, rfl⟩, by simp⟩
  case round =>
    obtain ⟨s1, out, HO, HR, HT, HE, hlen⟩ := hrel
    clear h
    cases hl : least s1 with
    | none =>
      have e : s1 = [] := least_none.1 hl
      subst e
      have HN := obj_next_no HO.out
      clear hl
      go_wp2_with (go_at_call 73; refine HN.mono ?_; rintro e w1 ⟨rfl, rfl⟩)
      go_ret
      have e2 := dueM_stop (s := ([] : List (It ByteArray))) (now := now) (fun x hx => by cases hx)
      rw [e2] at HE
      refine ⟨_, rfl, ?_, ?_, HT.out⟩
      · rw [← HE.out.1, List.append_nil]; exact HR.out
      · rw [← HE.out.2]; exact HO.out
    | some x =>
      have HN := Lib.hid (obj_next HO.out hl)
      by_cases ha : x.a ≤ now
      · have hna : ¬ x.a > now := by omega
        have STEP := Lib.hid (dueM_step hl ha)
        have hlt := without_lt (least_spec hl).1
        have HL := Lib.hid hl
        have LV := Lib.hid (lenV_row HR.out)
        clear hl
        go_wp2_with (first
          | (go_at_call 73; refine HN.out.mono ?_; rintro e w1 ⟨rfl, h5, h6⟩; obtain ⟨p, G, g1, g2, g3, g4⟩ := h5; have HA := all_rep g1; have HB0 := Hs.obj_take g2; rw [show firstV s1 = x.v by unfold Hs.firstV; rw [HL.out], HL.out] at HB0; have HB := Lib.hid HB0; have lq := (Array.getElem?_eq_some_iff.1 g1).1; have G1 := Lib.hid g1; have G4 := Lib.hid g4; have HW1 := Lib.hid h6; clear g1 g2 g4 h6 HB0)
          | (go_at_call 102; refine HA.mono ?_; rintro e w2 ⟨rfl, rfl⟩)
          | (go_at_call 49; refine HB.out.mono ?_; rintro e w3 ⟨rfl, h7, h8⟩; have H7 := Lib.hid h7; have H8 := Lib.hid h8; have T3 := Lib.hid (HT.out.trans ((Hp.Touch.of_below (S := F) HW1.out).trans (h8.mono (fun c _ hc => (G4.out c).2 (Or.inr hc))))); have R3 := Lib.hid (row_touch (row_touch HR.out (Hp.Touch.of_below (S := F) HW1.out) HF.out) (h8.mono (fun c _ hc => (G4.out c).2 (Or.inr hc))) HF.out); have LO3 : Hid (LObj w3 F q room (without s1 x.v) when) := Lib.hid ⟨p, G, (h8.block q lq g3).trans G1.out, h7, g3, G4.out⟩; clear h7 h8)
          | (at_builtin; refine wpList_append_own _ rfl _ _ 56 rfl w.heap.size 9 i0 (.string ByteArray.empty) 1 16 Try.underlying56 hi hz0 hz1 hz2 rfl (by decide) _ _ _ rfl (R3.out.alloc _) ⟨w3.heap.size, 0, none⟩ 1 1 [.string x.v] rfl rfl (cell_one_new _ _ _) (by intro u hu; simp at hu; subst hu; rfl) (by unfold maxLen; omega) (by omega) (by have := T3.out.size; simp; omega) ?_; intro v1 w4 hown1 hgrow1 hnil1; have HO1 := Lib.hid hown1; have HG1 := Lib.hid hgrow1; clear hown1 hgrow1 hnil1))
        have HG : Hid ((w3.alloc (.cells #[.string x.v] 9)).grownBy w4 u5.ownBlock) := Lib.hid HG1.out
        have own : ∀ k, u5.ownBlock = some k → w.heap.size ≤ k := by
          intro k hk
          rcases HR.out.2 with ⟨c2, _⟩ | ⟨g5, cap5, cur5, c2, c4, _⟩
          · rw [c2] at hk; simp [Value.ownBlock] at hk
          · rw [c2] at hk
            have : g5 = k := by simpa [Value.ownBlock] using hk
            omega
        have b1 : Below w3.heap.size w3 (w3.alloc (.cells #[.string x.v] 9)) := (Below.refl _ _).alloc (Nat.le_refl _) _
        have T4 : Hp.Touch F w w4 := (T3.out.then (Hp.Touch.of_below (S := fun _ => False) b1) (fun _ _ c => c.elim)).then (Hp.Touch.of_grown HG.out) (fun k hk c => absurd (own k c) (by omega))
        have L4 : LObj w4 F q room (without s1 x.v) when := by
          have c1 := LO3.out.below b1
          exact c1.move (fun k hk => HG.out.block k (c1.lt hk) (fun c => by have := own k c.symm; have := HF.out k hk; omega))
        have el : lenV v1 = out.length + 1 := lenV_row HO1.out
        have e0 : lenV u5 = out.length := LV.out
        refine ⟨⟨without s1 x.v, out ++ [x.v], Lib.hid L4, Lib.hid ?_, Lib.hid T4, Lib.hid ?_, by simp; omega⟩, by rw [el, e0]; omega⟩
        · have := HO1.out
          simpa using this
        · have h1 := HE.out
          rw [STEP.out] at h1
          exact ⟨by rw [List.append_assoc]; exact h1.1, h1.2⟩
      · have hna : x.a > now := by omega
        have E2 := Lib.hid (dueM_stop (s := s1) (now := now) (fun y hy => by rw [hl] at hy; injection hy with hy; subst hy; exact ha))
        clear hl
        go_wp2_with (go_at_call 73; refine HN.out.mono ?_; rintro e w1 ⟨rfl, h5, h6⟩)
        go_ret
        rw [E2.out] at HE
        refine ⟨_, rfl, ?_, ?_, HT.out.trans (Hp.Touch.of_below h6)⟩
        · rw [← HE.out.1, List.append_nil]; exact row_touch HR.out (Hp.Touch.of_below (S := F) h6) HF.out
        · rw [← HE.out.2]; exact h5
end Go.Proofs.Ytpmamgdblbplcaa.Ls
