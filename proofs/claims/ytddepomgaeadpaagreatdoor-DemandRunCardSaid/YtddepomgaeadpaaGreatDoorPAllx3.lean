-- Written by a program of this session (wip/pp.py) over the kit's print, with hand-proved contracts beside it.
import Derived.Test.YtddepomgaeadpaaGreatDoorWz
import Derived.Test.YtddepomgaeadpaaGreatDoorPAllx0
import Derived.Test.YtddepomgaeadpaaGreatDoorPAllx2
namespace Go.Proofs.YtddepomgaeadpaaGreatDoor.PAll
open Go.Shelf Go.Lib Go.RowKit Go.Proofs.YtddepomgaeadpaaGreatDoorW.PrintWords Go.Proofs.YtddepomgaeadpaaGreatDoorW.PrintLast Go.Proofs.YtddepomgaeadpaaGreatDoorW.PrintMore
attribute [local go_sem] max2_int min2_int max_two min_two max_three min_three max_four min_four   -- for this text's walks alone
set_option linter.unusedVariables false
set_option linter.unusedSimpArgs false

/-! ### most_with: function 50 -/
def most_with.f (k : Nat) (l0 : List (S31)) (a1_0 : Int) (a1_1 : Int) (a1_2 : Int) : Option (Bool) := (api_Load.f l0).bind fun t120 => ((some (([(⟨a1_0, a1_1, a1_2⟩ : S31)] : List (S31)) : List (S31))).bind fun y123 => (if t120.length + y123.length < 5864062014805 then ((demand_Fits.f k (t120 ++ y123)).bind fun t129 => (some t129)) else (none)))
theorem most_with.mono : ∀ a0 a1 a2 a3 k, LeO (most_with.f k a0 a1 a2 a3) (most_with.f (k + 1) a0 a1 a2 a3) := by
 intro a0 a1 a2 a3 k
 unfold most_with.f
 repeat' first
   | (with_reducible exact demand_Fits.mono _ _)
   | (with_reducible exact LeO.refl _)
   | (with_reducible exact LeO.none _)
   | (with_reducible refine LeO.ite ?_ ?_)
   | (with_reducible refine LeO.bind ?_ (fun _ => ?_))
   | exact demand_Fits.mono _ _
   | exact LeO.none _
   | refine LeO.ite ?_ ?_
   | refine LeO.bind ?_ (fun _ => ?_)
set_option maxHeartbeats 8000000 in
set_option maxRecDepth 100000 in
theorem most_with.calls (k : Nat) (A0 : Option Addr) (c0 : Nat) (l0 : List (S31)) (a1_0 : Int) (a1_1 : Int) (a1_2 : Int) (r : Bool) (w : World) (hr0 : Kd.C k31 w A0 l0.length l0) (hc0 : l0.length ≤ c0) (h : most_with.f k l0 a1_0 a1_1 a1_2 = some r) :
  Calls Tryz.prog 50 #[.slice A0 l0.length c0, .agg #[.int .i64 a1_0, .int .i64 a1_1, .int .i64 a1_2]] w fun e w' => e = .returned (.bool r) ∧ Below w.heap.size w w' := by
 have hu31 := Tryz.underlying31
 have HR0 := Aside0.mk hr0
 have HC0 := Aside0.mk hc0
 clear hr0 hc0
 have HB := Aside0.mk (Below.refl w.heap.size w)
 have H : ((api_Load.f l0).bind fun t120 => ((some (([(⟨a1_0, a1_1, a1_2⟩ : S31)] : List (S31)) : List (S31))).bind fun y123 => (if t120.length + y123.length < 5864062014805 then ((demand_Fits.f k (t120 ++ y123)).bind fun t129 => (some t129)) else (none)))) = some r := h
 clear h
 replace H := Option.bind_eq_some_iff.mp H
 obtain ⟨t120, A30, H⟩ := H
 have A3 := Aside0.mk A30
 clear A30
 obtain ⟨y123, hy123⟩ : ∃ y_ : List (S31), y_ = (([(⟨a1_0, a1_1, a1_2⟩ : S31)] : List (S31))) := ⟨_, rfl⟩
 replace H : (if t120.length + y123.length < 5864062014805 then ((demand_Fits.f k (t120 ++ y123)).bind fun t129 => (some t129)) else (none)) = some r := by (have H2_ := (Option.bind_some _ _).symm.trans H; rw [hy123]; with_reducible exact H2_)
 have Ny123 := Aside0.mk hy123
 clear hy123
 by_cases c4 : t120.length + y123.length < 5864062014805
 ·rw [if_pos c4] at H
  have LMc4 := Aside0.mk c4
  clear c4
  obtain ⟨y126, hy126⟩ : ∃ y_ : List (S31), y_ = (t120 ++ y123) := ⟨_, rfl⟩
  replace H : ((demand_Fits.f k y126).bind fun t129 => (some t129)) = some r := by (rw [hy126]; with_reducible exact H)
  have Ny126 := Aside0.mk hy126
  clear hy126
  replace H := Option.bind_eq_some_iff.mp H
  obtain ⟨t129, A50, H⟩ := H
  have A5 := Aside0.mk A50
  clear A50
  obtain rfl := Option.some.inj H
  go_enter Tryz.func50, Tryz.ntmps50
  try go_wp2_with (((with_reducible refine gate_dst (N := 3) rfl ?_); refine box_event ?hg (N := 3) ?hd (cs := #[.int .i64 a1_0, .int .i64 a1_1, .int .i64 a1_2]) (t := 31) ?hr ?_; (case hd => rfl); (case hg => rfl); (case hr => (go_simp; done)); intro gb119 hg w6 hbox hb; have BK119 := Aside0.mk (hbox); have GW119 := Aside0.mk ((by rw [hg]; exact below_size HB.out : w.heap.size ≤ gb119)); have GE119 := Aside0.mk ((by rw [hg]; exact below_size HB.out : w.heap.size ≤ gb119)); replace HB := Aside0.mk (below_step HB.out hb); clear hb hbox hg))
  replace BK119 := Aside0.mk (blk_drew BK119.out)
  replace HB := Aside0.mk (below_drew1 HB.out)
  refine start_ (n := 7) (S := fun w' => w'.cell? ⟨gb119, 0, none⟩ = some (.int .i64 a1_0) ∧ w'.cell? ⟨gb119, 1, none⟩ = some (.int .i64 a1_1) ∧ w'.cell? ⟨gb119, 2, none⟩ = some (.int .i64 a1_2)) (ds := []) (bs 7 0) (by kernel_rfl) rfl rfl ⟨(blk_cell BK119.out 0).trans rfl, (blk_cell BK119.out 1).trans rfl, (blk_cell BK119.out 2).trans rfl⟩ (fun hHeld => ?_)
  generalize w6.drew = w7 at BK119 HB hHeld ⊢
  refine pure_ (i := 0) (N := some 5) (v := ?_) (a' := ?_) (bs 7 1) rfl rfl (by kernel_rfl) (fun _ _ _ h => h) (Or.inl ⟨by rfl, ?_⟩) ?_ ?_
  rotate_left
  ·intro w'
   go_simp
   with_reducible rfl
  rotate_left
  ·simp only [Act.put, List.setIfInBounds_toArray, List.set_cons_zero, List.set_cons_succ, i64_w, i32_w]
   rfl
  refine take_ (i := 2) (N := some 7) (v := ?_) (a' := ?_) (bs 7 5) rfl rfl (by kernel_rfl) (fun _ _ _ h => h) (Or.inl ⟨by rfl, ?_⟩) hHeld ?_ ?_
  rotate_left
  ·rintro w' ⟨s0, s1, s2⟩
   go_simp
   with_reducible rfl
  rotate_left
  ·simp only [Act.put, List.setIfInBounds_toArray, List.set_cons_zero, List.set_cons_succ, i64_w, i32_w]
   rfl
  refine join_ (σ := Value × Value) 3 (bs 7 15) (fun s_ => [(6, s_.1), (8, s_.2)]) (fun s_ w' => (w'.cell? ⟨gb119, 0, none⟩ = some (.int .i64 a1_0) ∧ w'.cell? ⟨gb119, 1, none⟩ = some (.int .i64 a1_1) ∧ w'.cell? ⟨gb119, 2, none⟩ = some (.int .i64 a1_2)) ∧ (Kd.R k31 31 w' w.heap.size (fun k_ => some k_ ≠ (s_.2 : Value).ownBlock ∧ k_ ≠ gb119) s_.1 t120) ∧ (Kd.R k31 31 w' w.heap.size (fun k_ => some k_ ≠ (s_.1 : Value).ownBlock ∧ k_ ≠ gb119) s_.2 y123) ∧ (w'.heap[gb119]? = some (.cells #[.int .i64 a1_0, .int .i64 a1_1, .int .i64 a1_2] 31 (0, 0))) ∧ (Below w.heap.size w w')) ?_ ?_
  rotate_left
  ·intro hCont
   refine two_ (i := 1) (j := 3) (Ni := some 6) (Nj := some 8) (bs 7 7) (bs 7 13) rfl rfl rfl rfl (by kernel_rfl) (by decide) (by decide) (fun K hK => ?_) (fun K hK => ?_)
   ·skip
    refine goes_ Tryz.func58 (by kernel_rfl) rfl #[.slice A0 l0.length c0] (by rfl) rfl rfl (by (try simp only [List.map_toArray, List.map_cons, List.map_nil]); (rfl)) ?_
    with_reducible refine (api_Load.calls _ _ l0 t120 _ ?side1 ?side2 A3.out).mono ?_
    (case side1 => repeat ((exact (Kd.C_below HR0.out HB.out))))
    (case side2 => exact HC0.out)
    rintro e w8 ⟨v121, rfl, ho0, hb⟩
    refine ⟨_, rfl, ?_⟩
    have HO122 := Aside0.mk (Kd.R_lower (Kd.R_newB ho0 BK119.out) (below_size HB.out))
    replace BK119 := Aside0.mk (blk_below BK119.out hb)
    replace HB := Aside0.mk (below_step HB.out hb)
    (try clear hb)
    (try clear hb2)
    (try clear hk)
    (try clear hi)
    (try clear ho0)
    refine hK.out _ _ ⟨(blk_cell BK119.out 0).trans rfl, (blk_cell BK119.out 1).trans rfl, (blk_cell BK119.out 2).trans rfl⟩ (fun hHeld => ?_)
    clear hK K
    refine norm_ (a' := ?_) ?_ ?_
    rotate_left
    ·show Act.put _ (some 6) _ = _
     simp only [Act.put, List.setIfInBounds_toArray, List.set_cons_zero, List.set_cons_succ, i64_w, i32_w]
     rfl
    refine one_ (i := 3) (N := some 8) (bs 7 15) rfl rfl (by kernel_rfl) (by decide) (fun K hK => ?_)
    refine Kd.R_lit_step k31 _ 31 ?hg (N := 8) ?hd (xs := ([(⟨a1_0, a1_1, a1_2⟩ : S31)] : List (S31))) (inner := [.int .i64 a1_0, .int .i64 a1_1, .int .i64 a1_2]) (ok := fun _ => True) (okp := fun _ => True) ?hr ?hp (fun _ hk => hk) trivial (Below.refl _ _) (Nat.le_refl _) (by simp) ?_; (case hd => rfl); (case hg => rfl); (case hr => (go_simp; done)); (case hp => exact (Reps.c3 (show Kd.M k31 _ _ _ (⟨a1_0, a1_1, a1_2⟩ : S31) [.int .i64 a1_0, .int .i64 a1_1, .int .i64 a1_2] from (k31_mkM _ _ _ (⟨a1_0, a1_1, a1_2⟩ : S31) )) (Reps.none _ _)))
    intro v124 w9 ho10 hb hg_ hnew_
    clear hg_ hnew_
    ((rw [← Ny123.out] at ho10))
    have HO125 := Aside0.mk (Kd.R_lower (Kd.R_newB (Kd.R_new' ho10 (Kd.R_lt HO122.out)) BK119.out) (below_size HB.out))
    replace HO122 := Aside0.mk (Kd.R_elder' HO122.out (Kd.R_base ho10) hb)
    replace BK119 := Aside0.mk (blk_below BK119.out hb)
    replace HB := Aside0.mk (below_step HB.out hb)
    clear hb ho10
    refine hK.out _ _ ⟨(blk_cell BK119.out 0).trans rfl, (blk_cell BK119.out 1).trans rfl, (blk_cell BK119.out 2).trans rfl⟩ (fun hHeld => ?_)
    clear hK K
    refine norm_ (a' := ?_) ?_ ?_
    rotate_left
    ·show Act.put _ (some 8) _ = _
     simp only [Act.put, List.setIfInBounds_toArray, List.set_cons_zero, List.set_cons_succ, i64_w, i32_w]
     rfl
    exact norm_ (by simp only [putAll, Act.put, List.setIfInBounds_toArray, List.set_cons_zero, List.set_cons_succ]) (hCont (v121, v124) _ ⟨hHeld, (by exact Kd.R_mono HO122.out (fun _ hk => ⟨hk.2, hk.1.2⟩)), (by exact Kd.R_mono HO125.out (fun _ hk => ⟨hk.1.2, hk.2⟩)), BK119.out, HB.out⟩)
   ·skip
    refine Kd.R_lit_step k31 _ 31 ?hg (N := 8) ?hd (xs := ([(⟨a1_0, a1_1, a1_2⟩ : S31)] : List (S31))) (inner := [.int .i64 a1_0, .int .i64 a1_1, .int .i64 a1_2]) (ok := fun _ => True) (okp := fun _ => True) ?hr ?hp (fun _ hk => hk) trivial (Below.refl _ _) (Nat.le_refl _) (by simp) ?_; (case hd => rfl); (case hg => rfl); (case hr => (go_simp; done)); (case hp => exact (Reps.c3 (show Kd.M k31 _ _ _ (⟨a1_0, a1_1, a1_2⟩ : S31) [.int .i64 a1_0, .int .i64 a1_1, .int .i64 a1_2] from (k31_mkM _ _ _ (⟨a1_0, a1_1, a1_2⟩ : S31) )) (Reps.none _ _)))
    intro v124 w8 ho9 hb hg_ hnew_
    clear hg_ hnew_
    ((rw [← Ny123.out] at ho9))
    have HO125 := Aside0.mk (Kd.R_lower (Kd.R_newB ho9 BK119.out) (below_size HB.out))
    replace BK119 := Aside0.mk (blk_below BK119.out hb)
    replace HB := Aside0.mk (below_step HB.out hb)
    clear hb ho9
    refine hK.out _ _ ⟨(blk_cell BK119.out 0).trans rfl, (blk_cell BK119.out 1).trans rfl, (blk_cell BK119.out 2).trans rfl⟩ (fun hHeld => ?_)
    clear hK K
    refine norm_ (a' := ?_) ?_ ?_
    rotate_left
    ·show Act.put _ (some 8) _ = _
     simp only [Act.put, List.setIfInBounds_toArray, List.set_cons_zero, List.set_cons_succ, i64_w, i32_w]
     rfl
    refine one_ (i := 1) (N := some 6) (bs 7 15) rfl rfl (by kernel_rfl) (by decide) (fun K hK => ?_)
    refine goes_ Tryz.func58 (by kernel_rfl) rfl #[.slice A0 l0.length c0] (by rfl) rfl rfl (by (try simp only [List.map_toArray, List.map_cons, List.map_nil]); (rfl)) ?_
    with_reducible refine (api_Load.calls _ _ l0 t120 _ ?side1 ?side2 A3.out).mono ?_
    (case side1 => repeat ((exact (Kd.C_below HR0.out HB.out))))
    (case side2 => exact HC0.out)
    rintro e w10 ⟨v121, rfl, ho0, hb⟩
    refine ⟨_, rfl, ?_⟩
    have HO122 := Aside0.mk (Kd.R_lower (Kd.R_newB (Kd.R_new' ho0 (Kd.R_lt HO125.out)) BK119.out) (below_size HB.out))
    replace HO125 := Aside0.mk (Kd.R_elder' HO125.out (Kd.R_base ho0) hb)
    replace BK119 := Aside0.mk (blk_below BK119.out hb)
    replace HB := Aside0.mk (below_step HB.out hb)
    (try clear hb)
    (try clear hb2)
    (try clear hk)
    (try clear hi)
    (try clear ho0)
    refine hK.out _ _ ⟨(blk_cell BK119.out 0).trans rfl, (blk_cell BK119.out 1).trans rfl, (blk_cell BK119.out 2).trans rfl⟩ (fun hHeld => ?_)
    clear hK K
    refine norm_ (a' := ?_) ?_ ?_
    rotate_left
    ·show Act.put _ (some 6) _ = _
     simp only [Act.put, List.setIfInBounds_toArray, List.set_cons_zero, List.set_cons_succ, i64_w, i32_w]
     rfl
    exact norm_ (by simp only [putAll, Act.put, List.setIfInBounds_toArray, List.set_cons_zero, List.set_cons_succ]) (hCont (v121, v124) _ ⟨hHeld, (by exact Kd.R_mono HO122.out (fun _ hk => ⟨hk.1.2, hk.2⟩)), (by exact Kd.R_mono HO125.out (fun _ hk => ⟨hk.2, hk.1.2⟩)), BK119.out, HB.out⟩)
  rintro ⟨v121, v124⟩ w11 ⟨hS_, h0_, h1_, h2_, h3_⟩
  have HO122 : Aside0 (Kd.R k31 31 w11 w.heap.size (fun k_ => some k_ ≠ (v124 : Value).ownBlock ∧ k_ ≠ gb119) v121 t120) := ⟨h0_⟩
  have HO125 : Aside0 (Kd.R k31 31 w11 w.heap.size (fun k_ => some k_ ≠ (v121 : Value).ownBlock ∧ k_ ≠ gb119) v124 y123) := ⟨h1_⟩
  replace BK119 : Aside0 (w11.heap[gb119]? = some (.cells #[.int .i64 a1_0, .int .i64 a1_1, .int .i64 a1_2] 31 (0, 0))) := ⟨h2_⟩
  replace HB : Aside0 (Below w.heap.size w w11) := ⟨h3_⟩
  clear h0_ h1_ h2_ h3_
  have hHeld : w11.cell? ⟨gb119, 0, none⟩ = some (.int .i64 a1_0) ∧ w11.cell? ⟨gb119, 1, none⟩ = some (.int .i64 a1_1) ∧ w11.cell? ⟨gb119, 2, none⟩ = some (.int .i64 a1_2) := hS_
  obtain ⟨Ao13, co13, eo13⟩ := Kd.R_slice HO125.out
  ((subst eo13))
  refine norm_ (a' := ?_) ?_ ?_
  rotate_left
  ·simp only [putAll, Act.put, List.setIfInBounds_toArray, List.set_cons_zero, List.set_cons_succ]
   rfl
  refine one_ (i := 4) (N := some 9) (bs 7 31) rfl rfl (by kernel_rfl) (by decide) (fun K hK => ?_)
  refine Kd.R_append_rows_step k31 (w0 := w) w.heap.size (by rfl) (.tmp 6) (.tmp 8) 22 31 (.agg #[(.int .i64 0), (.int .i64 0), (.int .i64 0)]) 24 rfl Tryz.underlying22 info31 rfl (by decide) (by omega) v121 t120 y123 _ _ _ (fun k_ => some k_ ≠ (.slice Ao13 y123.length co13 : Value).ownBlock ∧ k_ ≠ gb119) (fun _ => False) rfl rfl ?aO ?aR (fun _ _ h => h) (fun _ h => h.elim) ?aF ?aB ?aS ?aL ?_
  (case aR => repeat ((exact (Kd.R_reads' HO125.out).2.2)))
  (case aB => exact HB.out)
  (case aF => exact (fun k_ hk => ⟨Kd.fresh' (Kd.R_lt HO125.out) k_ hk, Kd.freshB BK119.out k_ hk⟩))
  (case aO => exact HO122.out)
  (case aS => exact below_size HB.out)
  (case aL => have := LMc4.out; omega)
  intro v127 w12 ho hb hg hat
  rw [← Ny126.out] at ho
  have HO128 := Aside0.mk (ho)
  replace BK119 := Aside0.mk (blk_grown BK119.out hg (Kd.R_away HO122.out (fun _ hk => hk.2)))
  replace HO125 := Aside0.mk (Kd.R_after (ok := (fun k_ => k_ ≠ gb119)) (by exact Kd.R_mono HO125.out (fun _ hk => ⟨hk.2, hk.1⟩)) hg hat)
  replace HB := Aside0.mk (hb)
  clear HO122
  clear ho hb hg hat
  obtain ⟨Ao14, co14, eo14⟩ := Kd.R_slice HO128.out
  ((subst eo14))
  refine hK.out _ _ ⟨(blk_cell BK119.out 0).trans rfl, (blk_cell BK119.out 1).trans rfl, (blk_cell BK119.out 2).trans rfl⟩ (fun hHeld => ?_)
  clear hK K
  refine norm_ (a' := ?_) ?_ ?_
  rotate_left
  ·show Act.put _ (some 9) _ = _
   simp only [Act.put, List.setIfInBounds_toArray, List.set_cons_zero, List.set_cons_succ, i64_w, i32_w]
   rfl
  refine one_ (i := 5) (N := some 10) (bs 7 63) rfl rfl (by kernel_rfl) (by decide) (fun K hK => ?_)
  refine goes_ Tryz.func34 (by kernel_rfl) rfl #[.slice Ao14 y126.length co14] (by rfl) rfl rfl (by (try simp only [List.map_toArray, List.map_cons, List.map_nil]); (rfl)) ?_
  with_reducible refine (demand_Fits.calls k _ _ y126 t129 _ ?side1 ?side2 A5.out).mono ?_
  (case side1 => repeat ((exact (Kd.R_reads' HO128.out).2.2)))
  (case side2 => exact (Kd.R_reads' HO128.out).2.1)
  rintro e w15 ⟨rfl, hb⟩
  refine ⟨_, rfl, ?_⟩
  replace HO125 := Aside0.mk (Kd.R_below HO125.out hb)
  replace HO128 := Aside0.mk (Kd.R_below HO128.out hb)
  replace BK119 := Aside0.mk (blk_below BK119.out hb)
  replace HB := Aside0.mk (below_step HB.out hb)
  (try clear hb)
  (try clear hb2)
  (try clear hk)
  (try clear hi)
  refine hK.out _ _ ⟨(blk_cell BK119.out 0).trans rfl, (blk_cell BK119.out 1).trans rfl, (blk_cell BK119.out 2).trans rfl⟩ (fun hHeld => ?_)
  clear hK K
  refine norm_ (a' := ?_) ?_ ?_
  rotate_left
  ·show Act.put _ (some 10) _ = _
   simp only [Act.put, List.setIfInBounds_toArray, List.set_cons_zero, List.set_cons_succ, i64_w, i32_w]
   rfl
  refine pure_ (i := 6) (N := some 4) (v := ?_) (a' := ?_) (bs 7 127) rfl rfl (by kernel_rfl) (fun _ _ _ h => h) (Or.inl ⟨by rfl, ?_⟩) ?_ ?_
  rotate_left
  ·intro w'
   go_simp
   with_reducible rfl
  rotate_left
  ·simp only [Act.put, List.setIfInBounds_toArray, List.set_cons_zero, List.set_cons_succ, i64_w, i32_w]
   rfl
  refine done_ (by kernel_rfl) ?_
  try go_wp2
  go_ret
  exact ⟨by (rfl), by repeat ((with_reducible (exact HB.out)))⟩
 ·rw [if_neg c4] at H
  exact absurd H (by simp)

/-! ### most_Fit: function 36 -/
def most_Fit.l0 : Nat → List (S31) → Int → Int → Int → Int → Option (Int)
 | 0, _, _, _, _, _ => none
 | k + 1, x0, x1, x2, x9, x10 => if x9 < x10 then ((most_with.f k x0 (wrap64 (x9 + (wrap64 (Int.tdiv (wrap64 ((wrap64 (x10 - x9)) + 1)) 2)))) x1 x2).bind fun t131 => (if t131 = true then (most_Fit.l0 k x0 x1 x2 (wrap64 (x9 + (wrap64 (Int.tdiv (wrap64 ((wrap64 (x10 - x9)) + 1)) 2)))) x10) else (most_Fit.l0 k x0 x1 x2 x9 (wrap64 ((wrap64 (x9 + (wrap64 (Int.tdiv (wrap64 ((wrap64 (x10 - x9)) + 1)) 2)))) - 1))))) else (some x9)
def most_Fit.f (k : Nat) (l0 : List (S31)) (a1 : Int) (a2 : Int) (a3 : Int) : Option (Int) := (most_may.f k l0 a1 a2).bind fun t130 => (if t130 = true then (most_Fit.l0 k l0 a1 a2 0 (mn a3 a1)) else (some 0))
theorem most_Fit.mono_l : ∀ k, (∀ y0 y1 y2 y3 y4, LeO (most_Fit.l0 k y0 y1 y2 y3 y4) (most_Fit.l0 (k + 1) y0 y1 y2 y3 y4))
 | 0 => fun _ _ _ _ _ r h => by simp [most_Fit.l0] at h
 | k + 1 => by
  have ih0 := most_Fit.mono_l k
  ·intro y0 y1 y2 y3 y4
   unfold most_Fit.l0
   repeat' first
   | (with_reducible exact ih0 _ _ _ _ _)
   | (with_reducible exact most_may.mono _ _ _ _)
   | (with_reducible exact most_with.mono _ _ _ _ _)
   | (with_reducible exact LeO.refl _)
   | (with_reducible exact LeO.none _)
   | (with_reducible refine LeO.ite ?_ ?_)
   | (with_reducible refine LeO.bind ?_ (fun _ => ?_))
   | exact ih0 _ _ _ _ _
   | exact most_may.mono _ _ _ _
   | exact most_with.mono _ _ _ _ _
   | exact LeO.none _
   | refine LeO.ite ?_ ?_
   | refine LeO.bind ?_ (fun _ => ?_)
theorem most_Fit.mono : ∀ a0 a1 a2 a3 k, LeO (most_Fit.f k a0 a1 a2 a3) (most_Fit.f (k + 1) a0 a1 a2 a3) := by
 intro a0 a1 a2 a3 k
 have ih0 := most_Fit.mono_l k
 unfold most_Fit.f
 repeat' first
   | (with_reducible exact ih0 _ _ _ _ _)
   | (with_reducible exact most_may.mono _ _ _ _)
   | (with_reducible exact most_with.mono _ _ _ _ _)
   | (with_reducible exact LeO.refl _)
   | (with_reducible exact LeO.none _)
   | (with_reducible refine LeO.ite ?_ ?_)
   | (with_reducible refine LeO.bind ?_ (fun _ => ?_))
   | exact ih0 _ _ _ _ _
   | exact most_may.mono _ _ _ _
   | exact most_with.mono _ _ _ _ _
   | exact LeO.none _
   | refine LeO.ite ?_ ?_
   | refine LeO.bind ?_ (fun _ => ?_)
set_option maxHeartbeats 8000000 in
set_option maxRecDepth 100000 in
theorem most_Fit.calls (k : Nat) (A0 : Option Addr) (c0 : Nat) (l0 : List (S31)) (a1 : Int) (a2 : Int) (a3 : Int) (r : Int) (w : World) (hr0 : Kd.C k31 w A0 l0.length l0) (hc0 : l0.length ≤ c0) (h : most_Fit.f k l0 a1 a2 a3 = some r) :
  Calls Tryz.prog 36 #[.slice A0 l0.length c0, .int .i64 a1, .int .i64 a2, .int .i64 a3] w fun e w' => e = .returned (.int .i64 r) ∧ Below w.heap.size w w' := by
 have hu31 := Tryz.underlying31
 have HR0 := Aside0.mk hr0
 have HC0 := Aside0.mk hc0
 clear hr0 hc0
 have HB := Aside0.mk (Below.refl w.heap.size w)
 have H : ((most_may.f k l0 a1 a2).bind fun t130 => (if t130 = true then (most_Fit.l0 k l0 a1 a2 0 (mn a3 a1)) else (some 0))) = some r := h
 clear h
 replace H := Option.bind_eq_some_iff.mp H
 obtain ⟨t130, A50, H⟩ := H
 have A5 := Aside0.mk A50
 clear A50
 by_cases c6 : t130 = true
 ·subst c6
  have H1 : (most_Fit.l0 k l0 a1 a2 0 (mn a3 a1)) = some r := by rw [if_pos rfl] at H; exact H
  clear H
  have H := H1
  clear H1
  obtain ⟨ji7, hji7⟩ : ∃ j_ : Int, (mn a3 a1) = j_ := ⟨_, rfl⟩
  replace H : (most_Fit.l0 k l0 a1 a2 0 ji7) = some r := by (rw [hji7] at H; exact H)
  (try rw [hji7] at A5)
  have hji7_ : (if a1 < a3 then a1 else a3) = ji7 := hji7
  have H' := Aside0.mk H
  clear H
  go_enter Tryz.func36, Tryz.ntmps36
  go_wp2_with (((with_reducible refine gate_callee (f := 49) rfl ?_); refine goesL_ (some 15) rfl rfl Tryz.func49 (by kernel_rfl) rfl #[.slice A0 l0.length c0, .int .i64 a1, .int .i64 a2] rfl (by (try simp only [List.map_toArray, List.map_cons, List.map_nil]); (rfl)) ?_; (with_reducible refine (most_may.calls k _ _ l0 a1 a2 true _ ?side1 ?side2 A5.out).mono ?_); (case side1 => repeat ((exact HR0.out))); (case side2 => exact HC0.out); rintro e w8 ⟨rfl, hb⟩; refine ⟨_, rfl, ?_⟩; replace HB := Aside0.mk (below_step HB.out hb); (try clear hb); (try clear hb2); (try clear hk); (try clear hi)))
  go_loopg [9, 10] k (fun kq v9 v10 w' => ∃ (x9_1 : Int) (x10_1 : Int), v9 = .int .i64 x9_1 ∧ v10 = .int .i64 x10_1 ∧ Aside0 (most_Fit.l0 kq l0 a1 a2 x9_1 x10_1 = some r) ∧ Aside0 (kq ≤ k) ∧ Aside0 (Below w.heap.size w w'))
  case atStart => exact ⟨(0), (ji7), (by (rfl)), (by (rfl)), H', ⟨Nat.le_refl _⟩, ⟨HB.out⟩⟩
  case round =>
   clear H'
   obtain ⟨x9_1, x10_1, rfl, rfl, HA, HK1, HB⟩ := hrel
   cases gk with
   | zero => exact absurd HA.out (by simp [most_Fit.l0])
   | succ k1 =>
    have H := HA.out
    clear HA
    simp only [most_Fit.l0] at H
    by_cases c9 : x9_1 < x10_1
    ·rw [if_pos c9] at H
     have c9b0 : decide (x9_1 < x10_1) = true := decide_eq_true c9
     clear c9
     replace H := Option.bind_eq_some_iff.mp H
     obtain ⟨t131, A100, H⟩ := H
     have A10 := Aside0.mk A100
     clear A100
     by_cases c11 : t131 = true
     ·subst c11
      have H1 : (most_Fit.l0 k1 l0 a1 a2 (wrap64 (x9_1 + (wrap64 (Int.tdiv (wrap64 ((wrap64 (x10_1 - x9_1)) + 1)) 2)))) x10_1) = some r := by rw [if_pos rfl] at H; exact H
      clear H
      have H := H1
      clear H1
      have H' := Aside0.mk H
      clear H
      go_wp2_with (((with_reducible refine gate_callee (f := 50) rfl ?_); refine goesL_ (some 35) rfl rfl Tryz.func50 (by kernel_rfl) rfl #[.slice A0 l0.length c0, .agg #[.int .i64 (wrap64 (x9_1 + (wrap64 (Int.tdiv (wrap64 ((wrap64 (x10_1 - x9_1)) + 1)) 2)))), .int .i64 a1, .int .i64 a2]] rfl (by (try simp only [List.map_toArray, List.map_cons, List.map_nil]); (rfl)) ?_; (with_reducible refine (most_with.calls k1 _ _ l0 (wrap64 (x9_1 + (wrap64 (Int.tdiv (wrap64 ((wrap64 (x10_1 - x9_1)) + 1)) 2)))) a1 a2 true _ ?side1 ?side2 A10.out).mono ?_); (case side1 => repeat ((exact (Kd.C_below HR0.out HB.out)))); (case side2 => exact HC0.out); rintro e w12 ⟨rfl, hb⟩; refine ⟨_, rfl, ?_⟩; replace HB := Aside0.mk (below_step HB.out hb); (try clear hb); (try clear hb2); (try clear hk); (try clear hi)))
      go_roundg k1
      case measure => have := HK1.out; omega
      case rel => exact ⟨(wrap64 (x9_1 + (wrap64 (Int.tdiv (wrap64 ((wrap64 (x10_1 - x9_1)) + 1)) 2)))), (x10_1), (by (rfl)), (by (rfl)), H', ⟨by have := HK1.out; omega⟩, ⟨HB.out⟩⟩
     ·replace c11 := Bool.eq_false_iff.mpr c11
      subst c11
      have H1 : (most_Fit.l0 k1 l0 a1 a2 x9_1 (wrap64 ((wrap64 (x9_1 + (wrap64 (Int.tdiv (wrap64 ((wrap64 (x10_1 - x9_1)) + 1)) 2)))) - 1))) = some r := by rw [if_neg (show ¬ (false = true) by decide)] at H; exact H
      clear H
      have H := H1
      clear H1
      have H' := Aside0.mk H
      clear H
      go_wp2_with (((with_reducible refine gate_callee (f := 50) rfl ?_); refine goesL_ (some 35) rfl rfl Tryz.func50 (by kernel_rfl) rfl #[.slice A0 l0.length c0, .agg #[.int .i64 (wrap64 (x9_1 + (wrap64 (Int.tdiv (wrap64 ((wrap64 (x10_1 - x9_1)) + 1)) 2)))), .int .i64 a1, .int .i64 a2]] rfl (by (try simp only [List.map_toArray, List.map_cons, List.map_nil]); (rfl)) ?_; (with_reducible refine (most_with.calls k1 _ _ l0 (wrap64 (x9_1 + (wrap64 (Int.tdiv (wrap64 ((wrap64 (x10_1 - x9_1)) + 1)) 2)))) a1 a2 false _ ?side1 ?side2 A10.out).mono ?_); (case side1 => repeat ((exact (Kd.C_below HR0.out HB.out)))); (case side2 => exact HC0.out); rintro e w13 ⟨rfl, hb⟩; refine ⟨_, rfl, ?_⟩; replace HB := Aside0.mk (below_step HB.out hb); (try clear hb); (try clear hb2); (try clear hk); (try clear hi)))
      go_roundg k1
      case measure => have := HK1.out; omega
      case rel => exact ⟨(x9_1), (wrap64 ((wrap64 (x9_1 + (wrap64 (Int.tdiv (wrap64 ((wrap64 (x10_1 - x9_1)) + 1)) 2)))) - 1)), (by (rfl)), (by (rfl)), H', ⟨by have := HK1.out; omega⟩, ⟨HB.out⟩⟩
    ·rw [if_neg c9] at H
     have c9b0 : decide (x9_1 < x10_1) = false := decide_eq_false c9
     clear c9
     obtain rfl := Option.some.inj H
     go_wp2
     go_ret
     exact ⟨by (rfl), by repeat ((with_reducible (exact HB.out)))⟩
 ·replace c6 := Bool.eq_false_iff.mpr c6
  subst c6
  have H1 : (some 0) = some r := by rw [if_neg (show ¬ (false = true) by decide)] at H; exact H
  clear H
  have H := H1
  clear H1
  obtain rfl := Option.some.inj H
  go_enter Tryz.func36, Tryz.ntmps36
  go_wp2_with (((with_reducible refine gate_callee (f := 49) rfl ?_); refine goesL_ (some 15) rfl rfl Tryz.func49 (by kernel_rfl) rfl #[.slice A0 l0.length c0, .int .i64 a1, .int .i64 a2] rfl (by (try simp only [List.map_toArray, List.map_cons, List.map_nil]); (rfl)) ?_; (with_reducible refine (most_may.calls k _ _ l0 a1 a2 false _ ?side1 ?side2 A5.out).mono ?_); (case side1 => repeat ((exact HR0.out))); (case side2 => exact HC0.out); rintro e w14 ⟨rfl, hb⟩; refine ⟨_, rfl, ?_⟩; replace HB := Aside0.mk (below_step HB.out hb); (try clear hb); (try clear hb2); (try clear hk); (try clear hi)))
  go_ret
  exact ⟨by (rfl), by repeat ((with_reducible (exact HB.out)))⟩

/-! ### most_Tight: function 38 -/
def most_Tight.l0 : Nat → List (S31) → Int → Int → Int → Option (Int)
 | 0, _, _, _, _ => none
 | k + 1, x0, x1, x2, x7 => if x7 < (mn x2 x1) then ((most_with.f k x0 (wrap64 (x7 + 1)) (wrap64 (x7 + 1)) x1).bind fun t133 => (if t133 = true then (most_Tight.l0 k x0 x1 x2 (wrap64 (x7 + 1))) else (some x7))) else (some x7)
def most_Tight.f (k : Nat) (l0 : List (S31)) (a1 : Int) (a2 : Int) : Option (Int) := (most_may.f k l0 a1 a1).bind fun t132 => (if t132 = true then (most_Tight.l0 k l0 a1 a2 0) else (some 0))
theorem most_Tight.mono_l : ∀ k, (∀ y0 y1 y2 y3, LeO (most_Tight.l0 k y0 y1 y2 y3) (most_Tight.l0 (k + 1) y0 y1 y2 y3))
 | 0 => fun _ _ _ _ r h => by simp [most_Tight.l0] at h
 | k + 1 => by
  have ih0 := most_Tight.mono_l k
  ·intro y0 y1 y2 y3
   unfold most_Tight.l0
   repeat' first
   | (with_reducible exact ih0 _ _ _ _)
   | (with_reducible exact most_may.mono _ _ _ _)
   | (with_reducible exact most_with.mono _ _ _ _ _)
   | (with_reducible exact LeO.refl _)
   | (with_reducible exact LeO.none _)
   | (with_reducible refine LeO.ite ?_ ?_)
   | (with_reducible refine LeO.bind ?_ (fun _ => ?_))
   | exact ih0 _ _ _ _
   | exact most_may.mono _ _ _ _
   | exact most_with.mono _ _ _ _ _
   | exact LeO.none _
   | refine LeO.ite ?_ ?_
   | refine LeO.bind ?_ (fun _ => ?_)
theorem most_Tight.mono : ∀ a0 a1 a2 k, LeO (most_Tight.f k a0 a1 a2) (most_Tight.f (k + 1) a0 a1 a2) := by
 intro a0 a1 a2 k
 have ih0 := most_Tight.mono_l k
 unfold most_Tight.f
 repeat' first
   | (with_reducible exact ih0 _ _ _ _)
   | (with_reducible exact most_may.mono _ _ _ _)
   | (with_reducible exact most_with.mono _ _ _ _ _)
   | (with_reducible exact LeO.refl _)
   | (with_reducible exact LeO.none _)
   | (with_reducible refine LeO.ite ?_ ?_)
   | (with_reducible refine LeO.bind ?_ (fun _ => ?_))
   | exact ih0 _ _ _ _
   | exact most_may.mono _ _ _ _
   | exact most_with.mono _ _ _ _ _
   | exact LeO.none _
   | refine LeO.ite ?_ ?_
   | refine LeO.bind ?_ (fun _ => ?_)
set_option maxHeartbeats 8000000 in
set_option maxRecDepth 100000 in
theorem most_Tight.calls (k : Nat) (A0 : Option Addr) (c0 : Nat) (l0 : List (S31)) (a1 : Int) (a2 : Int) (r : Int) (w : World) (hr0 : Kd.C k31 w A0 l0.length l0) (hc0 : l0.length ≤ c0) (h : most_Tight.f k l0 a1 a2 = some r) :
  Calls Tryz.prog 38 #[.slice A0 l0.length c0, .int .i64 a1, .int .i64 a2] w fun e w' => e = .returned (.int .i64 r) ∧ Below w.heap.size w w' := by
 have hu31 := Tryz.underlying31
 have HR0 := Aside0.mk hr0
 have HC0 := Aside0.mk hc0
 clear hr0 hc0
 have HB := Aside0.mk (Below.refl w.heap.size w)
 have H : ((most_may.f k l0 a1 a1).bind fun t132 => (if t132 = true then (most_Tight.l0 k l0 a1 a2 0) else (some 0))) = some r := h
 clear h
 replace H := Option.bind_eq_some_iff.mp H
 obtain ⟨t132, A40, H⟩ := H
 have A4 := Aside0.mk A40
 clear A40
 by_cases c5 : t132 = true
 ·subst c5
  have H1 : (most_Tight.l0 k l0 a1 a2 0) = some r := by rw [if_pos rfl] at H; exact H
  clear H
  have H := H1
  clear H1
  have H' := Aside0.mk H
  clear H
  go_enter Tryz.func38, Tryz.ntmps38
  go_wp2_with (((with_reducible refine gate_callee (f := 49) rfl ?_); refine goesL_ (some 11) rfl rfl Tryz.func49 (by kernel_rfl) rfl #[.slice A0 l0.length c0, .int .i64 a1, .int .i64 a1] rfl (by (try simp only [List.map_toArray, List.map_cons, List.map_nil]); (rfl)) ?_; (with_reducible refine (most_may.calls k _ _ l0 a1 a1 true _ ?side1 ?side2 A4.out).mono ?_); (case side1 => repeat ((exact HR0.out))); (case side2 => exact HC0.out); rintro e w6 ⟨rfl, hb⟩; refine ⟨_, rfl, ?_⟩; replace HB := Aside0.mk (below_step HB.out hb); (try clear hb); (try clear hb2); (try clear hk); (try clear hi)))
  go_loopg [7] k (fun kq v7 w' => ∃ (x7_1 : Int), v7 = .int .i64 x7_1 ∧ Aside0 (most_Tight.l0 kq l0 a1 a2 x7_1 = some r) ∧ Aside0 (kq ≤ k) ∧ Aside0 (Below w.heap.size w w'))
  case atStart => exact ⟨(0), (by (rfl)), H', ⟨Nat.le_refl _⟩, ⟨HB.out⟩⟩
  case round =>
   clear H'
   obtain ⟨x7_1, rfl, HA, HK1, HB⟩ := hrel
   cases gk with
   | zero => exact absurd HA.out (by simp [most_Tight.l0])
   | succ k1 =>
    have H := HA.out
    clear HA
    simp only [most_Tight.l0] at H
    obtain ⟨ji7, hji7⟩ : ∃ j_ : Int, (mn a2 a1) = j_ := ⟨_, rfl⟩
    replace H : (if x7_1 < (ji7) then ((most_with.f k1 l0 (wrap64 (x7_1 + 1)) (wrap64 (x7_1 + 1)) a1).bind fun t133 => (if t133 = true then (most_Tight.l0 k1 l0 a1 a2 (wrap64 (x7_1 + 1))) else (some x7_1))) else (some x7_1)) = some r := by (rw [hji7] at H; exact H)
    have hji7_ : (if a1 < a2 then a1 else a2) = ji7 := hji7
    by_cases c8 : x7_1 < (ji7)
    ·rw [if_pos c8] at H
     have c8b0 : decide (x7_1 < (ji7)) = true := decide_eq_true c8
     clear c8
     replace H := Option.bind_eq_some_iff.mp H
     obtain ⟨t133, A90, H⟩ := H
     have A9 := Aside0.mk A90
     clear A90
     by_cases c10 : t133 = true
     ·subst c10
      have H1 : (most_Tight.l0 k1 l0 a1 a2 (wrap64 (x7_1 + 1))) = some r := by rw [if_pos rfl] at H; exact H
      clear H
      have H := H1
      clear H1
      have H' := Aside0.mk H
      clear H
      go_wp2_with ((go_at_call 50; (with_reducible refine (most_with.calls k1 _ _ l0 (wrap64 (x7_1 + 1)) (wrap64 (x7_1 + 1)) a1 true _ ?side1 ?side2 A9.out).mono ?_); (case side1 => repeat ((exact (Kd.C_below HR0.out HB.out)))); (case side2 => exact HC0.out); rintro e w11 ⟨rfl, hb⟩; replace HB := Aside0.mk (below_step HB.out hb); (try clear hb); (try clear hb2); (try clear hk); (try clear hi)))
      go_roundg k1
      case measure => have := HK1.out; omega
      case rel => exact ⟨(wrap64 (x7_1 + 1)), (by (rfl)), H', ⟨by have := HK1.out; omega⟩, ⟨HB.out⟩⟩
     ·replace c10 := Bool.eq_false_iff.mpr c10
      subst c10
      have H1 : (some x7_1) = some r := by rw [if_neg (show ¬ (false = true) by decide)] at H; exact H
      clear H
      have H := H1
      clear H1
      obtain rfl := Option.some.inj H
      go_wp2_with ((go_at_call 50; (with_reducible refine (most_with.calls k1 _ _ l0 (wrap64 (x7_1 + 1)) (wrap64 (x7_1 + 1)) a1 false _ ?side1 ?side2 A9.out).mono ?_); (case side1 => repeat ((exact (Kd.C_below HR0.out HB.out)))); (case side2 => exact HC0.out); rintro e w12 ⟨rfl, hb⟩; replace HB := Aside0.mk (below_step HB.out hb); (try clear hb); (try clear hb2); (try clear hk); (try clear hi)))
      go_ret
      exact ⟨by (rfl), by repeat ((with_reducible (exact HB.out)))⟩
    ·rw [if_neg c8] at H
     have c8b0 : decide (x7_1 < (ji7)) = false := decide_eq_false c8
     clear c8
     obtain rfl := Option.some.inj H
     go_wp2
     go_ret
     exact ⟨by (rfl), by repeat ((with_reducible (exact HB.out)))⟩
 ·replace c5 := Bool.eq_false_iff.mpr c5
  subst c5
  have H1 : (some 0) = some r := by rw [if_neg (show ¬ (false = true) by decide)] at H; exact H
  clear H
  have H := H1
  clear H1
  obtain rfl := Option.some.inj H
  go_enter Tryz.func38, Tryz.ntmps38
  go_wp2_with (((with_reducible refine gate_callee (f := 49) rfl ?_); refine goesL_ (some 11) rfl rfl Tryz.func49 (by kernel_rfl) rfl #[.slice A0 l0.length c0, .int .i64 a1, .int .i64 a1] rfl (by (try simp only [List.map_toArray, List.map_cons, List.map_nil]); (rfl)) ?_; (with_reducible refine (most_may.calls k _ _ l0 a1 a1 false _ ?side1 ?side2 A4.out).mono ?_); (case side1 => repeat ((exact HR0.out))); (case side2 => exact HC0.out); rintro e w13 ⟨rfl, hb⟩; refine ⟨_, rfl, ?_⟩; replace HB := Aside0.mk (below_step HB.out hb); (try clear hb); (try clear hb2); (try clear hk); (try clear hi)))
  go_ret
  exact ⟨by (rfl), by repeat ((with_reducible (exact HB.out)))⟩

/-! ### hortatorlaw7_Begun: function 41 -/

def hortatorlaw7_Begun.f  : Option (Bool) := some true
theorem hortatorlaw7_Begun.calls  (r : Bool) (w : World) (h : hortatorlaw7_Begun.f  = some r) :
  Calls Tryz.prog 41 #[] w fun e w' => e = .returned (.bool r) ∧ Below w.heap.size w w' := by
 injection h with h
 subst h
 exact begun7_calls w


end Go.Proofs.YtddepomgaeadpaaGreatDoor.PAll
