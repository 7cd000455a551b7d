-- Written by a program of this session (wip/pp.py) over the kit's print, with hand-proved contracts beside it.
import Derived.Test.YtddepomgaeadpaaGreatDoorPAllx0
import Derived.Test.YtddepomgaeadpaaGreatDoorPAllx8
namespace Go.Proofs.YtddepomgaeadpaaGreatDoor.PAll
open Go.Shelf Go.Lib Go.RowKit Go.Proofs.YtddepomgaeadpaaGreatDoorW.PrintWords Go.Proofs.YtddepomgaeadpaaGreatDoorW.PrintLast Go.Proofs.YtddepomgaeadpaaGreatDoorW.PrintMore
attribute [local go_sem] max2_int min2_int max_two min_two max_three min_three max_four min_four   -- for this text's walks alone
set_option linter.unusedVariables false
set_option linter.unusedSimpArgs false

/-! ### hortatorref7_with: function 52 -/
def hortatorref7_with.f (l0 : List (S31)) (a1_0 : Int) (a1_1 : Int) (a1_2 : Int) : Option ((List (S31))) := if ([] : List (S31)).length + l0.length < 5864062014805 then ((some (([] : List (S31)) ++ l0 : List (S31))).bind fun y298 => ((some (([(⟨a1_0, a1_1, a1_2⟩ : S31)] : List (S31)) : List (S31))).bind fun y301 => (if y298.length + y301.length < 5864062014805 then (some (y298 ++ y301)) else (none)))) else (none)
set_option maxHeartbeats 8000000 in
set_option maxRecDepth 100000 in
theorem hortatorref7_with.calls (A0 : Option Addr) (c0 : Nat) (l0 : List (S31)) (a1_0 : Int) (a1_1 : Int) (a1_2 : Int) (r : List (S31)) (w : World) (hr0 : Kd.C k31 w A0 l0.length l0) (hc0 : l0.length ≤ c0) (h : hortatorref7_with.f l0 a1_0 a1_1 a1_2 = some r) :
  Calls Tryz.prog 52 #[.slice A0 l0.length c0, .agg #[.int .i64 a1_0, .int .i64 a1_1, .int .i64 a1_2]] w fun e w' => ∃ v0_ : Value, e = .returned (v0_) ∧ Kd.R k31 31 w' w.heap.size (fun _ => True) v0_ r ∧ Below w.heap.size w w' := by
 have hu31 := Tryz.underlying31
 have HR0 := Aside0.mk hr0
 have HC0 := Aside0.mk hc0
 clear hr0 hc0
 have HB := Aside0.mk (Below.refl w.heap.size w)
 have H : (if ([] : List (S31)).length + l0.length < 5864062014805 then ((some (([] : List (S31)) ++ l0 : List (S31))).bind fun y298 => ((some (([(⟨a1_0, a1_1, a1_2⟩ : S31)] : List (S31)) : List (S31))).bind fun y301 => (if y298.length + y301.length < 5864062014805 then (some (y298 ++ y301)) else (none)))) else (none)) = some r := h
 clear h
 by_cases c3 : ([] : List (S31)).length + l0.length < 5864062014805
 ·rw [if_pos c3] at H
  have LMc3 := Aside0.mk c3
  clear c3
  obtain ⟨y298, hy298⟩ : ∃ y_ : List (S31), y_ = (([] : List (S31)) ++ l0) := ⟨_, rfl⟩
  replace H : ((some (([(⟨a1_0, a1_1, a1_2⟩ : S31)] : List (S31)) : List (S31))).bind fun y301 => (if y298.length + y301.length < 5864062014805 then (some (y298 ++ y301)) else (none))) = some r := by (have H2_ := (Option.bind_some _ _).symm.trans H; rw [hy298]; with_reducible exact H2_)
  have Ny298 := Aside0.mk hy298
  clear hy298
  obtain ⟨y301, hy301⟩ : ∃ y_ : List (S31), y_ = (([(⟨a1_0, a1_1, a1_2⟩ : S31)] : List (S31))) := ⟨_, rfl⟩
  replace H : (if y298.length + y301.length < 5864062014805 then (some (y298 ++ y301)) else (none)) = some r := by (have H2_ := (Option.bind_some _ _).symm.trans H; rw [hy301]; with_reducible exact H2_)
  have Ny301 := Aside0.mk hy301
  clear hy301
  by_cases c4 : y298.length + y301.length < 5864062014805
  ·rw [if_pos c4] at H
   have LMc4 := Aside0.mk c4
   clear c4
   obtain ⟨y304, hy304⟩ : ∃ y_ : List (S31), y_ = (y298 ++ y301) := ⟨_, rfl⟩
   replace H : (some y304) = some r := by (rw [hy304]; with_reducible exact H)
   have Ny304 := Aside0.mk hy304
   clear hy304
   obtain rfl := Option.some.inj H
   go_enter Tryz.func52, Tryz.ntmps52
   try go_wp2_with (((with_reducible refine gate_dst (N := 3) rfl ?_); refine box_event ?hg (N := 3) ?hd (cs := #[.int .i64 a1_0, .int .i64 a1_1, .int .i64 a1_2]) (t := 31) ?hr ?_; (case hd => rfl); (case hg => rfl); (case hr => (go_simp; done)); intro gb297 hg w5 hbox hb; have n0_ := Aside0.mk (below_step (by repeat ((with_reducible (exact HB.out)))) hb); have n1_ := Aside0.mk (hbox); have n2_ := Aside0.mk ((by rw [hg]; exact (below_size (by repeat ((with_reducible (exact HB.out))))) : w.heap.size ≤ gb297)); have n3_ := Aside0.mk ((by rw [hg]; exact (below_size (by repeat ((with_reducible (exact HB.out))))) : w.heap.size ≤ gb297)); clear HB; have HB := n0_; have BK297 := n1_; have GW297 := n2_; have GE297 := n3_; clear n0_ n1_ n2_ n3_; clear hb hbox hg))
   have n0_ := Aside0.mk (blk_drew BK297.out)
   have n1_ := Aside0.mk (below_drew1 HB.out)
   clear BK297
   clear HB
   have BK297 := n0_
   have HB := n1_
   clear n0_ n1_
   refine start_ (n := 6) (S := fun w' => w'.cell? ⟨gb297, 0, none⟩ = some (.int .i64 a1_0) ∧ w'.cell? ⟨gb297, 1, none⟩ = some (.int .i64 a1_1) ∧ w'.cell? ⟨gb297, 2, none⟩ = some (.int .i64 a1_2)) (ds := []) #[false, false, false, false, false, false] (by kernel_rfl) rfl rfl ⟨(blk_cell BK297.out 0).trans rfl, (blk_cell BK297.out 1).trans rfl, (blk_cell BK297.out 2).trans rfl⟩ (fun hHeld => ?_)
   generalize w5.drew = w6 at BK297 HB hHeld ⊢
   refine pure_ (i := 0) (N := some 5) (v := ?_) (a' := ?_) #[true, false, false, false, false, false] rfl rfl (by kernel_rfl) (fun _ _ _ h => h) (Or.inl ⟨by rfl, ?_⟩) ?_ ?_
   rotate_left
   ·intro w'
    go_simp
    with_reducible rfl
   rotate_left
   ·simp only [Act.put, List.setIfInBounds_toArray, List.set_cons_zero, List.set_cons_succ, i64_w, i32_w]
    rfl
   refine take_ (i := 2) (N := some 7) (v := ?_) (a' := ?_) #[true, false, true, false, false, false] rfl rfl (by kernel_rfl) (fun _ _ _ h => h) (Or.inl ⟨by rfl, ?_⟩) hHeld ?_ ?_
   rotate_left
   ·rintro w' ⟨s0, s1, s2⟩
    go_simp
    with_reducible rfl
   rotate_left
   ·simp only [Act.put, List.setIfInBounds_toArray, List.set_cons_zero, List.set_cons_succ, i64_w, i32_w]
    rfl
   refine join_ (σ := Value × Value) 2 #[true, true, true, true, false, false] (fun s_ => [(6, s_.1), (8, s_.2)]) (fun s_ w' => (w'.cell? ⟨gb297, 0, none⟩ = some (.int .i64 a1_0) ∧ w'.cell? ⟨gb297, 1, none⟩ = some (.int .i64 a1_1) ∧ w'.cell? ⟨gb297, 2, none⟩ = some (.int .i64 a1_2)) ∧ (Kd.R k31 31 w' w.heap.size (fun k_ => some k_ ≠ (s_.2 : Value).ownBlock ∧ k_ ≠ gb297) s_.1 y298) ∧ (Kd.R k31 31 w' w.heap.size (fun k_ => some k_ ≠ (s_.1 : Value).ownBlock ∧ k_ ≠ gb297) s_.2 y301) ∧ (w'.heap[gb297]? = some (.cells #[.int .i64 a1_0, .int .i64 a1_1, .int .i64 a1_2] 31 (0, 0))) ∧ (Below w.heap.size w w')) ?_ ?_
   rotate_left
   ·intro hCont
    refine two_ (i := 1) (j := 3) (Ni := some 6) (Nj := some 8) #[true, true, true, false, false, false] #[true, false, true, true, false, false] rfl rfl rfl rfl (by kernel_rfl) (by decide) (by decide) (fun K hK => ?_) (fun K hK => ?_)
    ·skip
     refine Kd.R_append_rows_step k31 (w0 := w) w.heap.size (by rfl) (.const (.slice none 0 0)) (.tmp 5) 22 31 (.agg #[(.int .i64 0), (.int .i64 0), (.int .i64 0)]) 24 rfl Tryz.underlying22 info31 rfl (by decide) (by omega) (.slice none 0 0) ([] : List (S31)) l0 _ _ _ (fun k_ => k_ ≠ gb297) (fun _ => False) rfl rfl ?aO ?aR (fun _ _ h => h) (fun _ h => h.elim) ?aF ?aB ?aS ?aL ?_
     (case aR => repeat ((exact (Kd.C_below HR0.out HB.out))))
     (case aB => exact (by repeat ((with_reducible (exact HB.out)))))
     (case aF => exact (fun k_ hk => Kd.freshB (g := gb297) (o := .cells #[.int .i64 a1_0, .int .i64 a1_1, .int .i64 a1_2] 31 (0, 0)) (by exact BK297.out) k_ hk))
     (case aO => exact ((Kd.R_nil _ _ _ _ (fun k_ => k_ ≠ gb297))))
     (case aS => exact (below_size (by repeat ((with_reducible (exact HB.out))))))
     (case aL => have := LMc3.out; omega)
     intro v299 w7 ho hb hg hat
     rw [← Ny298.out] at ho
     have n0_ := Aside0.mk (blk_grown (g := gb297) (o := .cells #[.int .i64 a1_0, .int .i64 a1_1, .int .i64 a1_2] 31 (0, 0)) (by exact BK297.out) hg (by simp [Value.ownBlock]))
     have n1_ := Aside0.mk (hb)
     have n2_ := Aside0.mk (ho)
     clear BK297
     clear HB
     have BK297 := n0_
     have HB := n1_
     have HO300 := n2_
     clear n0_ n1_ n2_
     clear ho hb hg hat
     refine hK.out _ _ ⟨(blk_cell BK297.out 0).trans rfl, (blk_cell BK297.out 1).trans rfl, (blk_cell BK297.out 2).trans rfl⟩ (fun hHeld => ?_)
     clear hK K
     refine norm_ (a' := ?_) ?_ ?_
     rotate_left
     ·show Act.put _ (some 6) _ = _
      simp only [Act.put, List.setIfInBounds_toArray, List.set_cons_zero, List.set_cons_succ, i64_w, i32_w]
      rfl
     refine one_ (i := 3) (N := some 8) #[true, true, true, true, false, false] rfl rfl (by kernel_rfl) (by decide) (fun K hK => ?_)
     refine Kd.R_lit_step k31 _ 31 ?hg (N := 8) ?hd (xs := ([(⟨a1_0, a1_1, a1_2⟩ : S31)] : List (S31))) (inner := [.int .i64 a1_0, .int .i64 a1_1, .int .i64 a1_2]) (ok := fun _ => True) (okp := fun _ => True) ?hr ?hp (fun _ hk => hk) trivial (Below.refl _ _) (Nat.le_refl _) (by simp) ?_; (case hd => rfl); (case hg => rfl); (case hr => (go_simp; done)); (case hp => exact (Reps.c3 (show Kd.M k31 _ _ _ (⟨a1_0, a1_1, a1_2⟩ : S31) [.int .i64 a1_0, .int .i64 a1_1, .int .i64 a1_2] from (k31_mkM _ _ _ (⟨a1_0, a1_1, a1_2⟩ : S31) )) (Reps.none _ _)))
     intro v302 w8 ho9 hb hg_ hnew_
     clear hg_ hnew_
     ((rw [← Ny301.out] at ho9))
     have n0_ := Aside0.mk (Kd.R_elder' (by exact HO300.out) (Kd.R_base ho9) hb)
     have n1_ := Aside0.mk (Kd.R_lower (Kd.R_newB (Kd.R_new' ho9 (Kd.R_lt (by exact HO300.out))) (g := gb297) (o := .cells #[.int .i64 a1_0, .int .i64 a1_1, .int .i64 a1_2] 31 (0, 0)) (by exact BK297.out)) (below_size (by repeat ((with_reducible (exact HB.out))))))
     have n2_ := Aside0.mk (blk_below (g := gb297) (o := .cells #[.int .i64 a1_0, .int .i64 a1_1, .int .i64 a1_2] 31 (0, 0)) (by exact BK297.out) hb)
     have n3_ := Aside0.mk (below_step (by repeat ((with_reducible (exact HB.out)))) hb)
     clear HO300
     clear BK297
     clear HB
     have HO300 := n0_
     have HO303 := n1_
     have BK297 := n2_
     have HB := n3_
     clear n0_ n1_ n2_ n3_
     clear hb ho9
     refine hK.out _ _ ⟨(blk_cell BK297.out 0).trans rfl, (blk_cell BK297.out 1).trans rfl, (blk_cell BK297.out 2).trans rfl⟩ (fun hHeld => ?_)
     clear hK K
     refine norm_ (a' := ?_) ?_ ?_
     rotate_left
     ·show Act.put _ (some 8) _ = _
      simp only [Act.put, List.setIfInBounds_toArray, List.set_cons_zero, List.set_cons_succ, i64_w, i32_w]
      rfl
     exact norm_ (by simp only [putAll, Act.put, List.setIfInBounds_toArray, List.set_cons_zero, List.set_cons_succ]) (hCont (v299, v302) _ ⟨hHeld, (by exact Kd.R_mono HO300.out (fun _ hk => ⟨hk.2, hk.1⟩)), (by exact Kd.R_mono HO303.out (fun _ hk => ⟨hk.1.2, hk.2⟩)), (by exact BK297.out), (by repeat ((with_reducible (exact HB.out))))⟩)
    ·skip
     refine Kd.R_lit_step k31 _ 31 ?hg (N := 8) ?hd (xs := ([(⟨a1_0, a1_1, a1_2⟩ : S31)] : List (S31))) (inner := [.int .i64 a1_0, .int .i64 a1_1, .int .i64 a1_2]) (ok := fun _ => True) (okp := fun _ => True) ?hr ?hp (fun _ hk => hk) trivial (Below.refl _ _) (Nat.le_refl _) (by simp) ?_; (case hd => rfl); (case hg => rfl); (case hr => (go_simp; done)); (case hp => exact (Reps.c3 (show Kd.M k31 _ _ _ (⟨a1_0, a1_1, a1_2⟩ : S31) [.int .i64 a1_0, .int .i64 a1_1, .int .i64 a1_2] from (k31_mkM _ _ _ (⟨a1_0, a1_1, a1_2⟩ : S31) )) (Reps.none _ _)))
     intro v302 w7 ho8 hb hg_ hnew_
     clear hg_ hnew_
     ((rw [← Ny301.out] at ho8))
     have n0_ := Aside0.mk (Kd.R_lower (Kd.R_newB ho8 (g := gb297) (o := .cells #[.int .i64 a1_0, .int .i64 a1_1, .int .i64 a1_2] 31 (0, 0)) (by exact BK297.out)) (below_size (by repeat ((with_reducible (exact HB.out))))))
     have n1_ := Aside0.mk (blk_below (g := gb297) (o := .cells #[.int .i64 a1_0, .int .i64 a1_1, .int .i64 a1_2] 31 (0, 0)) (by exact BK297.out) hb)
     have n2_ := Aside0.mk (below_step (by repeat ((with_reducible (exact HB.out)))) hb)
     clear BK297
     clear HB
     have HO303 := n0_
     have BK297 := n1_
     have HB := n2_
     clear n0_ n1_ n2_
     clear hb ho8
     refine hK.out _ _ ⟨(blk_cell BK297.out 0).trans rfl, (blk_cell BK297.out 1).trans rfl, (blk_cell BK297.out 2).trans rfl⟩ (fun hHeld => ?_)
     clear hK K
     refine norm_ (a' := ?_) ?_ ?_
     rotate_left
     ·show Act.put _ (some 8) _ = _
      simp only [Act.put, List.setIfInBounds_toArray, List.set_cons_zero, List.set_cons_succ, i64_w, i32_w]
      rfl
     refine one_ (i := 1) (N := some 6) #[true, true, true, true, false, false] rfl rfl (by kernel_rfl) (by decide) (fun K hK => ?_)
     refine Kd.R_append_rows_step k31 (w0 := w) w.heap.size (by rfl) (.const (.slice none 0 0)) (.tmp 5) 22 31 (.agg #[(.int .i64 0), (.int .i64 0), (.int .i64 0)]) 24 rfl Tryz.underlying22 info31 rfl (by decide) (by omega) (.slice none 0 0) ([] : List (S31)) l0 _ _ _ (fun k_ => some k_ ≠ (v302 : Value).ownBlock ∧ k_ ≠ gb297) (fun _ => False) rfl rfl ?aO ?aR (fun _ _ h => h) (fun _ h => h.elim) ?aF ?aB ?aS ?aL ?_
     (case aR => repeat ((exact (Kd.C_below HR0.out HB.out))))
     (case aB => exact (by repeat ((with_reducible (exact HB.out)))))
     (case aF => exact (fun k_ hk => ⟨Kd.fresh' (Kd.R_lt (by exact HO303.out)) k_ hk, Kd.freshB (g := gb297) (o := .cells #[.int .i64 a1_0, .int .i64 a1_1, .int .i64 a1_2] 31 (0, 0)) (by exact BK297.out) k_ hk⟩))
     (case aO => exact ((Kd.R_nil _ _ _ _ (fun k_ => some k_ ≠ (v302 : Value).ownBlock ∧ k_ ≠ gb297))))
     (case aS => exact (below_size (by repeat ((with_reducible (exact HB.out))))))
     (case aL => have := LMc3.out; omega)
     intro v299 w9 ho hb hg hat
     rw [← Ny298.out] at ho
     have n0_ := Aside0.mk (blk_grown (g := gb297) (o := .cells #[.int .i64 a1_0, .int .i64 a1_1, .int .i64 a1_2] 31 (0, 0)) (by exact BK297.out) hg (by simp [Value.ownBlock]))
     have n1_ := Aside0.mk (Kd.R_after (Kd.R_apart_nil (by exact HO303.out)) hg hat)
     have n2_ := Aside0.mk (hb)
     have n3_ := Aside0.mk (ho)
     clear BK297
     clear HO303
     clear HB
     have BK297 := n0_
     have HO303 := n1_
     have HB := n2_
     have HO300 := n3_
     clear n0_ n1_ n2_ n3_
     clear ho hb hg hat
     refine hK.out _ _ ⟨(blk_cell BK297.out 0).trans rfl, (blk_cell BK297.out 1).trans rfl, (blk_cell BK297.out 2).trans rfl⟩ (fun hHeld => ?_)
     clear hK K
     refine norm_ (a' := ?_) ?_ ?_
     rotate_left
     ·show Act.put _ (some 6) _ = _
      simp only [Act.put, List.setIfInBounds_toArray, List.set_cons_zero, List.set_cons_succ, i64_w, i32_w]
      rfl
     exact norm_ (by simp only [putAll, Act.put, List.setIfInBounds_toArray, List.set_cons_zero, List.set_cons_succ]) (hCont (v299, v302) _ ⟨hHeld, (by exact HO300.out), (by exact Kd.R_mono HO303.out (fun _ hk => ⟨hk.2, hk.1.2⟩)), (by exact BK297.out), (by repeat ((with_reducible (exact HB.out))))⟩)
   rintro ⟨v299, v302⟩ w10 ⟨hS_, h0_, h1_, h2_, h3_⟩
   have n0_ : Aside0 (Kd.R k31 31 w10 w.heap.size (fun k_ => some k_ ≠ (v302 : Value).ownBlock ∧ k_ ≠ gb297) v299 y298) := ⟨h0_⟩
   have n1_ : Aside0 (Kd.R k31 31 w10 w.heap.size (fun k_ => some k_ ≠ (v299 : Value).ownBlock ∧ k_ ≠ gb297) v302 y301) := ⟨h1_⟩
   have n2_ : Aside0 (w10.heap[gb297]? = some (.cells #[.int .i64 a1_0, .int .i64 a1_1, .int .i64 a1_2] 31 (0, 0))) := ⟨h2_⟩
   have n3_ : Aside0 (Below w.heap.size w w10) := ⟨h3_⟩
   clear BK297
   clear HB
   clear h0_ h1_ h2_ h3_
   have HO300 := n0_
   have HO303 := n1_
   have BK297 := n2_
   have HB := n3_
   clear n0_ n1_ n2_ n3_
   have hHeld : w10.cell? ⟨gb297, 0, none⟩ = some (.int .i64 a1_0) ∧ w10.cell? ⟨gb297, 1, none⟩ = some (.int .i64 a1_1) ∧ w10.cell? ⟨gb297, 2, none⟩ = some (.int .i64 a1_2) := hS_
   obtain ⟨Ao12, co12, eo12⟩ := Kd.R_slice HO303.out
   ((subst eo12))
   refine norm_ (a' := ?_) ?_ ?_
   rotate_left
   ·simp only [putAll, Act.put, List.setIfInBounds_toArray, List.set_cons_zero, List.set_cons_succ]
    rfl
   refine one_ (i := 4) (N := some 9) #[true, true, true, true, true, false] rfl rfl (by kernel_rfl) (by decide) (fun K hK => ?_)
   refine Kd.R_append_rows_step k31 (w0 := w) w.heap.size (by rfl) (.tmp 6) (.tmp 8) 22 31 (.agg #[(.int .i64 0), (.int .i64 0), (.int .i64 0)]) 24 rfl Tryz.underlying22 info31 rfl (by decide) (by omega) v299 y298 y301 _ _ _ (fun k_ => some k_ ≠ (.slice Ao12 y301.length co12 : Value).ownBlock ∧ k_ ≠ gb297) (fun _ => False) rfl rfl ?aO ?aR (fun _ _ h => h) (fun _ h => h.elim) ?aF ?aB ?aS ?aL ?_
   (case aR => repeat ((exact (Kd.R_reads' HO303.out).2.2)))
   (case aB => exact (by repeat ((with_reducible (exact HB.out)))))
   (case aF => exact (fun k_ hk => ⟨Kd.fresh' (Kd.R_lt (by exact HO303.out)) k_ hk, Kd.freshB (g := gb297) (o := .cells #[.int .i64 a1_0, .int .i64 a1_1, .int .i64 a1_2] 31 (0, 0)) (by exact BK297.out) k_ hk⟩))
   (case aO => exact (by exact HO300.out))
   (case aS => exact (below_size (by repeat ((with_reducible (exact HB.out))))))
   (case aL => have := LMc4.out; omega)
   intro v305 w11 ho hb hg hat
   rw [← Ny304.out] at ho
   have n0_ := Aside0.mk (blk_grown (g := gb297) (o := .cells #[.int .i64 a1_0, .int .i64 a1_1, .int .i64 a1_2] 31 (0, 0)) (by exact BK297.out) hg (Kd.R_away HO300.out (fun _ hk => hk.2)))
   have n1_ := Aside0.mk (Kd.R_after (ok := (fun k_ => k_ ≠ gb297)) (by exact Kd.R_mono HO303.out (fun _ hk => ⟨hk.2, hk.1⟩)) hg hat)
   have n2_ := Aside0.mk (hb)
   have n3_ := Aside0.mk (ho)
   clear BK297
   clear HO303
   clear HB
   clear HO300
   have BK297 := n0_
   have HO303 := n1_
   have HB := n2_
   have HO306 := n3_
   clear n0_ n1_ n2_ n3_
   clear ho hb hg hat
   refine hK.out _ _ ⟨(blk_cell BK297.out 0).trans rfl, (blk_cell BK297.out 1).trans rfl, (blk_cell BK297.out 2).trans rfl⟩ (fun hHeld => ?_)
   clear hK K
   refine norm_ (a' := ?_) ?_ ?_
   rotate_left
   ·show Act.put _ (some 9) _ = _
    simp only [Act.put, List.setIfInBounds_toArray, List.set_cons_zero, List.set_cons_succ, i64_w, i32_w]
    rfl
   refine pure_ (i := 5) (N := some 4) (v := ?_) (a' := ?_) #[true, true, true, true, true, true] rfl rfl (by kernel_rfl) (fun _ _ _ h => h) (Or.inl ⟨by rfl, ?_⟩) ?_ ?_
   rotate_left
   ·intro w'
    go_simp
    with_reducible rfl
   rotate_left
   ·simp only [Act.put, List.setIfInBounds_toArray, List.set_cons_zero, List.set_cons_succ, i64_w, i32_w]
    rfl
   refine done_ (by kernel_rfl) ?_
   try go_wp2
   go_ret
   exact ⟨_, by (rfl), by exact Kd.R_mono HO306.out (fun _ hk => trivial), by repeat ((with_reducible (exact HB.out)))⟩
  ·rw [if_neg c4] at H
   exact absurd H (by simp)
 ·rw [if_neg c3] at H
  exact absurd H (by simp)

/-! ### hortatorref7_Most: function 37 -/
mutual
def hortatorref7_Most.j0 : Nat → List (S31) → Int → Int → Int → Bool → Option (Int)
 | 0, _, _, _, _, _ => none
 | k + 1, x0, x1, x2, x3, x30 => if x30 = true then (some 0) else (hortatorref7_Most.l0 k x0 x1 x2 (mn x3 x1))
def hortatorref7_Most.l0 : Nat → List (S31) → Int → Int → Int → Option (Int)
 | 0, _, _, _, _ => none
 | k + 1, x0, x1, x2, x9 => if x9 ≥ 1 then ((hortatorref7_with.f x0 x9 x1 x2).bind fun t308 => ((hortatorref7_Fits.f k t308).bind fun t311 => (if t311 = true then (some x9) else (hortatorref7_Most.l0 k x0 x1 x2 (wrap64 (x9 - 1)))))) else (some 0)
end
def hortatorref7_Most.f (k : Nat) (l0 : List (S31)) (a1 : Int) (a2 : Int) (a3 : Int) : Option (Int) := if (l0.length : Int) > 23 then (hortatorref7_Most.j0 k l0 a1 a2 a3 true) else ((hortatorref7_Fits.f k l0).bind fun t307 => (if t307 = true then (if a1 < 1 then (hortatorref7_Most.j0 k l0 a1 a2 a3 true) else (if a2 < a1 then (hortatorref7_Most.j0 k l0 a1 a2 a3 true) else (hortatorref7_Most.j0 k l0 a1 a2 a3 (decide (a2 > 200))))) else (hortatorref7_Most.j0 k l0 a1 a2 a3 true)))
set_option maxHeartbeats 8000000 in
set_option maxRecDepth 100000 in
theorem hortatorref7_Most.calls (k : Nat) (A0 : Option Addr) (c0 : Nat) (l0 : List (S31)) (a1 : Int) (a2 : Int) (a3 : Int) (r : Int) (w : World) (hr0 : Kd.C k31 w A0 l0.length l0) (hc0 : l0.length ≤ c0) (h : hortatorref7_Most.f k l0 a1 a2 a3 = some r) :
  Calls Tryz.prog 37 #[.slice A0 l0.length c0, .int .i64 a1, .int .i64 a2, .int .i64 a3] w fun e w' => e = .returned (.int .i64 r) ∧ Below w.heap.size w w' := by
 have hu31 := Tryz.underlying31
 have HR0 := Aside0.mk hr0
 have HC0 := Aside0.mk hc0
 clear hr0 hc0
 have HB := Aside0.mk (Below.refl w.heap.size w)
 have H : (if (l0.length : Int) > 23 then (hortatorref7_Most.j0 k l0 a1 a2 a3 true) else ((hortatorref7_Fits.f k l0).bind fun t307 => (if t307 = true then (if a1 < 1 then (hortatorref7_Most.j0 k l0 a1 a2 a3 true) else (if a2 < a1 then (hortatorref7_Most.j0 k l0 a1 a2 a3 true) else (hortatorref7_Most.j0 k l0 a1 a2 a3 (decide (a2 > 200))))) else (hortatorref7_Most.j0 k l0 a1 a2 a3 true)))) = some r := h
 clear h
 have HC5 := Aside0.mk H
 clear H
 go_enter Tryz.func37, Tryz.ntmps37
 go_upto_region 1 with (fail)
 go_cut [30] (fun v30 wc => ∃ (kq : Nat) (x30_4 : Bool), v30 = .bool x30_4 ∧ Aside0 (hortatorref7_Most.j0 kq l0 a1 a2 a3 x30_4 = some r) ∧ Aside0 (kq ≤ k) ∧ Aside0 (Below w.heap.size w wc))
 case first =>
  have H := HC5.out
  clear HC5
  by_cases c6 : (l0.length : Int) > 23
  ·rw [if_pos c6] at H
   have c6b0 : decide (23 < (l0.length : Int)) = true := decide_eq_true c6
   have c6b1 : decide (23 < l0.length) = true := decide_eq_true (by omega)
   clear c6
   ((skip))
   have H' := Aside0.mk H
   clear H
   go_wp2
   go_meet
   case rel => exact ⟨_, (true), (by (rfl)), H', ⟨by (omega)⟩, ⟨by repeat ((with_reducible (exact HB.out)))⟩⟩
  ·rw [if_neg c6] at H
   have c6b0 : decide (23 < (l0.length : Int)) = false := decide_eq_false c6
   have c6b1 : decide (23 < l0.length) = false := decide_eq_false (by omega)
   clear c6
   ((skip))
   replace H := Option.bind_eq_some_iff.mp H
   obtain ⟨t307, A70, H⟩ := H
   have A7 := Aside0.mk A70
   clear A70
   by_cases c8 : t307 = true
   ·subst c8
    have H1 : (if a1 < 1 then (hortatorref7_Most.j0 k l0 a1 a2 a3 true) else (if a2 < a1 then (hortatorref7_Most.j0 k l0 a1 a2 a3 true) else (hortatorref7_Most.j0 k l0 a1 a2 a3 (decide (a2 > 200))))) = some r := by rw [if_pos rfl] at H; exact H
    clear H
    have H := H1
    clear H1
    by_cases c9 : a1 < 1
    ·rw [if_pos c9] at H
     have c9b0 : decide (a1 < 1) = true := decide_eq_true c9
     clear c9
     have H' := Aside0.mk H
     clear H
     go_wp2_with ((go_at_call 51; (with_reducible refine (hortatorref7_Fits.calls k _ _ l0 true _ ?side1 ?side2 A7.out).mono ?_); (case side1 => repeat ((exact (Kd.C_below HR0.out HB.out)))); (case side2 => exact HC0.out); rintro e w10 ⟨rfl, hb⟩; have n0_ := Aside0.mk (below_step (by repeat ((with_reducible (exact HB.out)))) hb); clear HB; have HB := n0_; clear n0_; (try clear hb); (try clear hb2); (try clear hk); (try clear hi)))
     go_meet
     case rel => exact ⟨_, (true), (by (rfl)), H', ⟨by (omega)⟩, ⟨by repeat ((with_reducible (exact HB.out)))⟩⟩
    ·rw [if_neg c9] at H
     have c9b0 : decide (a1 < 1) = false := decide_eq_false c9
     clear c9
     by_cases c11 : a2 < a1
     ·rw [if_pos c11] at H
      have c11b0 : decide (a2 < a1) = true := decide_eq_true c11
      clear c11
      have H' := Aside0.mk H
      clear H
      go_wp2_with ((go_at_call 51; (with_reducible refine (hortatorref7_Fits.calls k _ _ l0 true _ ?side1 ?side2 A7.out).mono ?_); (case side1 => repeat ((exact (Kd.C_below HR0.out HB.out)))); (case side2 => exact HC0.out); rintro e w12 ⟨rfl, hb⟩; have n0_ := Aside0.mk (below_step (by repeat ((with_reducible (exact HB.out)))) hb); clear HB; have HB := n0_; clear n0_; (try clear hb); (try clear hb2); (try clear hk); (try clear hi)))
      go_meet
      case rel => exact ⟨_, (true), (by (rfl)), H', ⟨by (omega)⟩, ⟨by repeat ((with_reducible (exact HB.out)))⟩⟩
     ·rw [if_neg c11] at H
      have c11b0 : decide (a2 < a1) = false := decide_eq_false c11
      clear c11
      have H' := Aside0.mk H
      clear H
      go_wp2_with ((go_at_call 51; (with_reducible refine (hortatorref7_Fits.calls k _ _ l0 true _ ?side1 ?side2 A7.out).mono ?_); (case side1 => repeat ((exact (Kd.C_below HR0.out HB.out)))); (case side2 => exact HC0.out); rintro e w13 ⟨rfl, hb⟩; have n0_ := Aside0.mk (below_step (by repeat ((with_reducible (exact HB.out)))) hb); clear HB; have HB := n0_; clear n0_; (try clear hb); (try clear hb2); (try clear hk); (try clear hi)))
      go_meet
      case rel => exact ⟨_, (decide (a2 > 200)), (by (rfl)), H', ⟨by (omega)⟩, ⟨by repeat ((with_reducible (exact HB.out)))⟩⟩
   ·replace c8 := Bool.eq_false_iff.mpr c8
    subst c8
    have H1 : (hortatorref7_Most.j0 k l0 a1 a2 a3 true) = some r := by rw [if_neg (show ¬ (false = true) by decide)] at H; exact H
    clear H
    have H := H1
    clear H1
    have H' := Aside0.mk H
    clear H
    go_wp2_with ((go_at_call 51; (with_reducible refine (hortatorref7_Fits.calls k _ _ l0 false _ ?side1 ?side2 A7.out).mono ?_); (case side1 => repeat ((exact (Kd.C_below HR0.out HB.out)))); (case side2 => exact HC0.out); rintro e w14 ⟨rfl, hb⟩; have n0_ := Aside0.mk (below_step (by repeat ((with_reducible (exact HB.out)))) hb); clear HB; have HB := n0_; clear n0_; (try clear hb); (try clear hb2); (try clear hk); (try clear hi)))
    go_meet
    case rel => exact ⟨_, (true), (by (rfl)), H', ⟨by (omega)⟩, ⟨by repeat ((with_reducible (exact HB.out)))⟩⟩
 case rest =>
  clear HC5
  obtain ⟨kq, x30_4, rfl, HA, HJ4, HB⟩ := hcut
  cases kq with
  | zero => exact absurd HA.out (by simp [hortatorref7_Most.j0])
  | succ kj4 =>
   have H := HA.out
   clear HA
   simp only [hortatorref7_Most.j0] at H
   by_cases c15 : x30_4 = true
   ·subst c15
    have H1 : (some 0) = some r := by rw [if_pos rfl] at H; exact H
    clear H
    have H := H1
    clear H1
    obtain rfl := Option.some.inj H
    go_wp2
    go_ret
    exact ⟨by (rfl), by repeat ((with_reducible (exact HB.out)))⟩
   ·replace c15 := Bool.eq_false_iff.mpr c15
    subst c15
    have H1 : (hortatorref7_Most.l0 kj4 l0 a1 a2 (mn a3 a1)) = some r := by rw [if_neg (show ¬ (false = true) by decide)] at H; exact H
    clear H
    have H := H1
    clear H1
    obtain ⟨ji16, hji16⟩ : ∃ j_ : Int, (mn a3 a1) = j_ := ⟨_, rfl⟩
    replace H : (hortatorref7_Most.l0 kj4 l0 a1 a2 ji16) = some r := by (rw [hji16] at H; exact H)
    have hji16_ : (if a1 < a3 then a1 else a3) = ji16 := hji16
    have H' := Aside0.mk H
    clear H
    go_wp2
    go_loopg [9] kj4 (fun kq v9 w' => ∃ (x9_2 : Int), v9 = .int .i64 x9_2 ∧ Aside0 (hortatorref7_Most.l0 kq l0 a1 a2 x9_2 = some r) ∧ Aside0 (kq ≤ kj4) ∧ Aside0 (Below w.heap.size w w'))
    case atStart => exact ⟨(ji16), (by (rfl)), H', ⟨Nat.le_refl _⟩, ⟨by repeat ((with_reducible (exact HB.out)))⟩⟩
    case round =>
     clear H'
     obtain ⟨x9_2, rfl, HA, HK2, HB⟩ := hrel
     cases gk with
     | zero => exact absurd HA.out (by simp [hortatorref7_Most.l0])
     | succ k2 =>
      have H := HA.out
      clear HA
      simp only [hortatorref7_Most.l0] at H
      by_cases c17 : x9_2 ≥ 1
      ·rw [if_pos c17] at H
       have c17b0 : decide (1 ≤ x9_2) = true := decide_eq_true c17
       clear c17
       replace H := Option.bind_eq_some_iff.mp H
       obtain ⟨t308, A180, H⟩ := H
       have A18 := Aside0.mk A180
       clear A180
       replace H := Option.bind_eq_some_iff.mp H
       obtain ⟨t311, A190, H⟩ := H
       have A19 := Aside0.mk A190
       clear A190
       by_cases c20 : t311 = true
       ·subst c20
        have H1 : (some x9_2) = some r := by rw [if_pos rfl] at H; exact H
        clear H
        have H := H1
        clear H1
        obtain rfl := Option.some.inj H
        go_wp2_with (first | ((with_reducible refine gate_callee (f := 52) rfl ?_); refine goesL_ (some 43) rfl rfl Tryz.func52 (by kernel_rfl) rfl #[.slice A0 l0.length c0, .agg #[.int .i64 x9_2, .int .i64 a1, .int .i64 a2]] rfl (by (try simp only [List.map_toArray, List.map_cons, List.map_nil]); (rfl)) ?_; (with_reducible refine (hortatorref7_with.calls _ _ l0 x9_2 a1 a2 t308 _ ?side1 ?side2 A18.out).mono ?_); (case side1 => repeat ((exact (Kd.C_below HR0.out HB.out)))); (case side2 => exact HC0.out); rintro e w21 ⟨v309, rfl, ho0, hb⟩; refine ⟨_, rfl, ?_⟩; have n0_ := Aside0.mk (Kd.R_lower ho0 (below_size (by repeat ((with_reducible (exact HB.out)))))); have n1_ := Aside0.mk (below_step (by repeat ((with_reducible (exact HB.out)))) hb); clear HB; have HO310 := n0_; have HB := n1_; clear n0_ n1_; (try clear hb); (try clear hb2); (try clear hk); (try clear hi); (try clear ho0); obtain ⟨Ao22, co22, eo22⟩ := Kd.R_slice HO310.out; subst eo22) | ((with_reducible refine gate_callee (f := 51) rfl ?_); refine goesL_ (some 44) rfl rfl Tryz.func51 (by kernel_rfl) rfl #[.slice Ao22 t308.length co22] rfl (by (try simp only [List.map_toArray, List.map_cons, List.map_nil]); (rfl)) ?_; (with_reducible refine (hortatorref7_Fits.calls k2 _ _ t308 true _ ?side1 ?side2 A19.out).mono ?_); (case side1 => repeat ((exact (Kd.R_reads' HO310.out).2.2))); (case side2 => exact (Kd.R_reads' HO310.out).2.1); rintro e w23 ⟨rfl, hb⟩; refine ⟨_, rfl, ?_⟩; have n0_ := Aside0.mk (Kd.R_below (by exact HO310.out) hb); have n1_ := Aside0.mk (below_step (by repeat ((with_reducible (exact HB.out)))) hb); clear HO310; clear HB; have HO310 := n0_; have HB := n1_; clear n0_ n1_; (try clear hb); (try clear hb2); (try clear hk); (try clear hi)))
        go_ret
        exact ⟨by (rfl), by repeat ((with_reducible (exact HB.out)))⟩
       ·replace c20 := Bool.eq_false_iff.mpr c20
        subst c20
        have H1 : (hortatorref7_Most.l0 k2 l0 a1 a2 (wrap64 (x9_2 - 1))) = some r := by rw [if_neg (show ¬ (false = true) by decide)] at H; exact H
        clear H
        have H := H1
        clear H1
        have H' := Aside0.mk H
        clear H
        go_wp2_with (first | ((with_reducible refine gate_callee (f := 52) rfl ?_); refine goesL_ (some 43) rfl rfl Tryz.func52 (by kernel_rfl) rfl #[.slice A0 l0.length c0, .agg #[.int .i64 x9_2, .int .i64 a1, .int .i64 a2]] rfl (by (try simp only [List.map_toArray, List.map_cons, List.map_nil]); (rfl)) ?_; (with_reducible refine (hortatorref7_with.calls _ _ l0 x9_2 a1 a2 t308 _ ?side1 ?side2 A18.out).mono ?_); (case side1 => repeat ((exact (Kd.C_below HR0.out HB.out)))); (case side2 => exact HC0.out); rintro e w24 ⟨v309, rfl, ho0, hb⟩; refine ⟨_, rfl, ?_⟩; have n0_ := Aside0.mk (Kd.R_lower ho0 (below_size (by repeat ((with_reducible (exact HB.out)))))); have n1_ := Aside0.mk (below_step (by repeat ((with_reducible (exact HB.out)))) hb); clear HB; have HO310 := n0_; have HB := n1_; clear n0_ n1_; (try clear hb); (try clear hb2); (try clear hk); (try clear hi); (try clear ho0); obtain ⟨Ao25, co25, eo25⟩ := Kd.R_slice HO310.out; subst eo25) | ((with_reducible refine gate_callee (f := 51) rfl ?_); refine goesL_ (some 44) rfl rfl Tryz.func51 (by kernel_rfl) rfl #[.slice Ao25 t308.length co25] rfl (by (try simp only [List.map_toArray, List.map_cons, List.map_nil]); (rfl)) ?_; (with_reducible refine (hortatorref7_Fits.calls k2 _ _ t308 false _ ?side1 ?side2 A19.out).mono ?_); (case side1 => repeat ((exact (Kd.R_reads' HO310.out).2.2))); (case side2 => exact (Kd.R_reads' HO310.out).2.1); rintro e w26 ⟨rfl, hb⟩; refine ⟨_, rfl, ?_⟩; have n0_ := Aside0.mk (Kd.R_below (by exact HO310.out) hb); have n1_ := Aside0.mk (below_step (by repeat ((with_reducible (exact HB.out)))) hb); clear HO310; clear HB; have HO310 := n0_; have HB := n1_; clear n0_ n1_; (try clear hb); (try clear hb2); (try clear hk); (try clear hi)))
        go_roundg k2
        case measure => have := HJ4.out; have := HK2.out; omega
        case rel => exact ⟨(wrap64 (x9_2 - 1)), (by (rfl)), H', ⟨by have := HJ4.out; have := HK2.out; omega⟩, ⟨by repeat ((with_reducible (exact HB.out)))⟩⟩
      ·rw [if_neg c17] at H
       have c17b0 : decide (1 ≤ x9_2) = false := decide_eq_false c17
       clear c17
       obtain rfl := Option.some.inj H
       go_wp2
       go_ret
       exact ⟨by (rfl), by repeat ((with_reducible (exact HB.out)))⟩

end Go.Proofs.YtddepomgaeadpaaGreatDoor.PAll
