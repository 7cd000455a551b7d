-- Written by a program of this session (wip/pp.py) over the kit's print, with hand-proved contracts beside it.
import Derived.Test.YtddepomgaeadpaaGreatDoorPAllx0
import Derived.Test.YtddepomgaeadpaaGreatDoorPAllx2
import Derived.Test.YtddepomgaeadpaaGreatDoorPAllx3
import Derived.Test.YtddepomgaeadpaaGreatDoorPAllx4
namespace Go.Proofs.YtddepomgaeadpaaGreatDoor.PAll
open Go.Shelf Go.Lib Go.RowKit Go.Proofs.YtddepomgaeadpaaGreatDoorW.PrintWords Go.Proofs.YtddepomgaeadpaaGreatDoorW.PrintLast Go.Proofs.YtddepomgaeadpaaGreatDoorW.PrintMore
attribute [local go_sem] max2_int min2_int max_two min_two max_three min_three max_four min_four   -- for this text's walks alone
set_option linter.unusedVariables false
set_option linter.unusedSimpArgs false

/-! ### hortatorlaw9_MostLess: function 19 -/
def hortatorlaw9_MostLess.f (k : Nat) (l0 : List (S31)) (a1_0 : Int) (a1_1 : Int) (a1_2 : Int) (a2 : Int) (a3 : Int) (a4 : Int) : Option (Bool) := (hortatorlaw9_begun.f k).bind fun t481 => (if t481 = true then ((hortatorlaw9_Loads.f l0).bind fun t482 => ((hortatorlaw9_Loads.f t482).bind fun t485 => ((some (([(⟨a1_0, a1_1, a1_2⟩ : S31)] : List (S31)) : List (S31))).bind fun y488 => (if t485.length + y488.length < 5864062014805 then ((some (t485 ++ y488 : List (S31))).bind fun y491 => ((demand_Fits.f k y491).bind fun t494 => (if t494 = true then ((most_Fit.f k y491 (wrap64 (1 + (Go.bits .and .i64 a2 31))) (wrap64 (1 + (Go.bits .and .i64 a3 63))) (wrap64 (1 + (Go.bits .and .i64 a4 31)))).bind fun t496 => ((most_Fit.f k t482 (wrap64 (1 + (Go.bits .and .i64 a2 31))) (wrap64 (1 + (Go.bits .and .i64 a3 63))) (wrap64 (1 + (Go.bits .and .i64 a4 31)))).bind fun t497 => (if t496 ≤ t497 then ((most_Fit.f k t482 (wrap64 (1 + (Go.bits .and .i64 a2 31))) (wrap64 (1 + (Go.bits .and .i64 a3 63))) (wrap64 (1 + (Go.bits .and .i64 a4 31)))).bind fun t498 => ((most_Fit.f k t482 (wrap64 (1 + (Go.bits .and .i64 a2 31))) (wrap64 (1 + (Go.bits .and .i64 a3 63))) (wrap64 ((wrap64 (1 + (Go.bits .and .i64 a4 31))) + 1))).bind fun t499 => (some (decide (t498 ≤ t499))))) else (none)))) else ((most_Fit.f k y491 (wrap64 (1 + (Go.bits .and .i64 a2 31))) (wrap64 (1 + (Go.bits .and .i64 a3 63))) (wrap64 (1 + (Go.bits .and .i64 a4 31)))).bind fun t495 => (some (t495 == 0)))))) else (none))))) else (none))
set_option maxHeartbeats 8000000 in
set_option maxRecDepth 100000 in
theorem hortatorlaw9_MostLess.calls (k : Nat) (A0 : Option Addr) (c0 : Nat) (l0 : List (S31)) (a1_0 : Int) (a1_1 : Int) (a1_2 : Int) (a2 : Int) (a3 : Int) (a4 : Int) (r : Bool) (w : World) (hr0 : Kd.C k31 w A0 l0.length l0) (hc0 : l0.length ≤ c0) (h : hortatorlaw9_MostLess.f k l0 a1_0 a1_1 a1_2 a2 a3 a4 = some r) :
  Calls Tryz.prog 19 #[.slice A0 l0.length c0, .agg #[.int .i64 a1_0, .int .i64 a1_1, .int .i64 a1_2], .int .i64 a2, .int .i64 a3, .int .i64 a4] w fun e w' => e = .returned (.bool r) ∧ Below w.heap.size w w' := by
 have hu31 := Tryz.underlying31
 have HR0 := Aside0.mk hr0
 have HC0 := Aside0.mk hc0
 clear hr0 hc0
 have HB := Aside0.mk (Below.refl w.heap.size w)
 have H : ((hortatorlaw9_begun.f k).bind fun t481 => (if t481 = true then ((hortatorlaw9_Loads.f l0).bind fun t482 => ((hortatorlaw9_Loads.f t482).bind fun t485 => ((some (([(⟨a1_0, a1_1, a1_2⟩ : S31)] : List (S31)) : List (S31))).bind fun y488 => (if t485.length + y488.length < 5864062014805 then ((some (t485 ++ y488 : List (S31))).bind fun y491 => ((demand_Fits.f k y491).bind fun t494 => (if t494 = true then ((most_Fit.f k y491 (wrap64 (1 + (Go.bits .and .i64 a2 31))) (wrap64 (1 + (Go.bits .and .i64 a3 63))) (wrap64 (1 + (Go.bits .and .i64 a4 31)))).bind fun t496 => ((most_Fit.f k t482 (wrap64 (1 + (Go.bits .and .i64 a2 31))) (wrap64 (1 + (Go.bits .and .i64 a3 63))) (wrap64 (1 + (Go.bits .and .i64 a4 31)))).bind fun t497 => (if t496 ≤ t497 then ((most_Fit.f k t482 (wrap64 (1 + (Go.bits .and .i64 a2 31))) (wrap64 (1 + (Go.bits .and .i64 a3 63))) (wrap64 (1 + (Go.bits .and .i64 a4 31)))).bind fun t498 => ((most_Fit.f k t482 (wrap64 (1 + (Go.bits .and .i64 a2 31))) (wrap64 (1 + (Go.bits .and .i64 a3 63))) (wrap64 ((wrap64 (1 + (Go.bits .and .i64 a4 31))) + 1))).bind fun t499 => (some (decide (t498 ≤ t499))))) else (none)))) else ((most_Fit.f k y491 (wrap64 (1 + (Go.bits .and .i64 a2 31))) (wrap64 (1 + (Go.bits .and .i64 a3 63))) (wrap64 (1 + (Go.bits .and .i64 a4 31)))).bind fun t495 => (some (t495 == 0)))))) else (none))))) else (none))) = some r := h
 clear h
 replace H := Option.bind_eq_some_iff.mp H
 obtain ⟨t481, A60, H⟩ := H
 have A6 := Aside0.mk A60
 clear A60
 by_cases c7 : t481 = true
 ·subst c7
  have H1 : ((hortatorlaw9_Loads.f l0).bind fun t482 => ((hortatorlaw9_Loads.f t482).bind fun t485 => ((some (([(⟨a1_0, a1_1, a1_2⟩ : S31)] : List (S31)) : List (S31))).bind fun y488 => (if t485.length + y488.length < 5864062014805 then ((some (t485 ++ y488 : List (S31))).bind fun y491 => ((demand_Fits.f k y491).bind fun t494 => (if t494 = true then ((most_Fit.f k y491 (wrap64 (1 + (Go.bits .and .i64 a2 31))) (wrap64 (1 + (Go.bits .and .i64 a3 63))) (wrap64 (1 + (Go.bits .and .i64 a4 31)))).bind fun t496 => ((most_Fit.f k t482 (wrap64 (1 + (Go.bits .and .i64 a2 31))) (wrap64 (1 + (Go.bits .and .i64 a3 63))) (wrap64 (1 + (Go.bits .and .i64 a4 31)))).bind fun t497 => (if t496 ≤ t497 then ((most_Fit.f k t482 (wrap64 (1 + (Go.bits .and .i64 a2 31))) (wrap64 (1 + (Go.bits .and .i64 a3 63))) (wrap64 (1 + (Go.bits .and .i64 a4 31)))).bind fun t498 => ((most_Fit.f k t482 (wrap64 (1 + (Go.bits .and .i64 a2 31))) (wrap64 (1 + (Go.bits .and .i64 a3 63))) (wrap64 ((wrap64 (1 + (Go.bits .and .i64 a4 31))) + 1))).bind fun t499 => (some (decide (t498 ≤ t499))))) else (none)))) else ((most_Fit.f k y491 (wrap64 (1 + (Go.bits .and .i64 a2 31))) (wrap64 (1 + (Go.bits .and .i64 a3 63))) (wrap64 (1 + (Go.bits .and .i64 a4 31)))).bind fun t495 => (some (t495 == 0)))))) else (none))))) = some r := by rw [if_pos rfl] at H; exact H
  clear H
  have H := H1
  clear H1
  replace H := Option.bind_eq_some_iff.mp H
  obtain ⟨t482, A80, H⟩ := H
  have A8 := Aside0.mk A80
  clear A80
  replace H := Option.bind_eq_some_iff.mp H
  obtain ⟨t485, A90, H⟩ := H
  have A9 := Aside0.mk A90
  clear A90
  obtain ⟨y488, hy488⟩ : ∃ y_ : List (S31), y_ = (([(⟨a1_0, a1_1, a1_2⟩ : S31)] : List (S31))) := ⟨_, rfl⟩
  replace H : (if t485.length + y488.length < 5864062014805 then ((some (t485 ++ y488 : List (S31))).bind fun y491 => ((demand_Fits.f k y491).bind fun t494 => (if t494 = true then ((most_Fit.f k y491 (wrap64 (1 + (Go.bits .and .i64 a2 31))) (wrap64 (1 + (Go.bits .and .i64 a3 63))) (wrap64 (1 + (Go.bits .and .i64 a4 31)))).bind fun t496 => ((most_Fit.f k t482 (wrap64 (1 + (Go.bits .and .i64 a2 31))) (wrap64 (1 + (Go.bits .and .i64 a3 63))) (wrap64 (1 + (Go.bits .and .i64 a4 31)))).bind fun t497 => (if t496 ≤ t497 then ((most_Fit.f k t482 (wrap64 (1 + (Go.bits .and .i64 a2 31))) (wrap64 (1 + (Go.bits .and .i64 a3 63))) (wrap64 (1 + (Go.bits .and .i64 a4 31)))).bind fun t498 => ((most_Fit.f k t482 (wrap64 (1 + (Go.bits .and .i64 a2 31))) (wrap64 (1 + (Go.bits .and .i64 a3 63))) (wrap64 ((wrap64 (1 + (Go.bits .and .i64 a4 31))) + 1))).bind fun t499 => (some (decide (t498 ≤ t499))))) else (none)))) else ((most_Fit.f k y491 (wrap64 (1 + (Go.bits .and .i64 a2 31))) (wrap64 (1 + (Go.bits .and .i64 a3 63))) (wrap64 (1 + (Go.bits .and .i64 a4 31)))).bind fun t495 => (some (t495 == 0)))))) else (none)) = some r := by (have H2_ := (Option.bind_some _ _).symm.trans H; rw [hy488]; with_reducible exact H2_)
  have Ny488 := Aside0.mk hy488
  clear hy488
  by_cases c10 : t485.length + y488.length < 5864062014805
  ·rw [if_pos c10] at H
   have LMc10 := Aside0.mk c10
   clear c10
   obtain ⟨y491, hy491⟩ : ∃ y_ : List (S31), y_ = (t485 ++ y488) := ⟨_, rfl⟩
   replace H : ((demand_Fits.f k y491).bind fun t494 => (if t494 = true then ((most_Fit.f k y491 (wrap64 (1 + (Go.bits .and .i64 a2 31))) (wrap64 (1 + (Go.bits .and .i64 a3 63))) (wrap64 (1 + (Go.bits .and .i64 a4 31)))).bind fun t496 => ((most_Fit.f k t482 (wrap64 (1 + (Go.bits .and .i64 a2 31))) (wrap64 (1 + (Go.bits .and .i64 a3 63))) (wrap64 (1 + (Go.bits .and .i64 a4 31)))).bind fun t497 => (if t496 ≤ t497 then ((most_Fit.f k t482 (wrap64 (1 + (Go.bits .and .i64 a2 31))) (wrap64 (1 + (Go.bits .and .i64 a3 63))) (wrap64 (1 + (Go.bits .and .i64 a4 31)))).bind fun t498 => ((most_Fit.f k t482 (wrap64 (1 + (Go.bits .and .i64 a2 31))) (wrap64 (1 + (Go.bits .and .i64 a3 63))) (wrap64 ((wrap64 (1 + (Go.bits .and .i64 a4 31))) + 1))).bind fun t499 => (some (decide (t498 ≤ t499))))) else (none)))) else ((most_Fit.f k y491 (wrap64 (1 + (Go.bits .and .i64 a2 31))) (wrap64 (1 + (Go.bits .and .i64 a3 63))) (wrap64 (1 + (Go.bits .and .i64 a4 31)))).bind fun t495 => (some (t495 == 0))))) = some r := by (have H2_ := (Option.bind_some _ _).symm.trans H; rw [hy491]; with_reducible exact H2_)
   have Ny491 := Aside0.mk hy491
   clear hy491
   replace H := Option.bind_eq_some_iff.mp H
   obtain ⟨t494, A110, H⟩ := H
   have A11 := Aside0.mk A110
   clear A110
   by_cases c12 : t494 = true
   ·subst c12
    have H1 : ((most_Fit.f k y491 (wrap64 (1 + (Go.bits .and .i64 a2 31))) (wrap64 (1 + (Go.bits .and .i64 a3 63))) (wrap64 (1 + (Go.bits .and .i64 a4 31)))).bind fun t496 => ((most_Fit.f k t482 (wrap64 (1 + (Go.bits .and .i64 a2 31))) (wrap64 (1 + (Go.bits .and .i64 a3 63))) (wrap64 (1 + (Go.bits .and .i64 a4 31)))).bind fun t497 => (if t496 ≤ t497 then ((most_Fit.f k t482 (wrap64 (1 + (Go.bits .and .i64 a2 31))) (wrap64 (1 + (Go.bits .and .i64 a3 63))) (wrap64 (1 + (Go.bits .and .i64 a4 31)))).bind fun t498 => ((most_Fit.f k t482 (wrap64 (1 + (Go.bits .and .i64 a2 31))) (wrap64 (1 + (Go.bits .and .i64 a3 63))) (wrap64 ((wrap64 (1 + (Go.bits .and .i64 a4 31))) + 1))).bind fun t499 => (some (decide (t498 ≤ t499))))) else (none)))) = some r := by rw [if_pos rfl] at H; exact H
    clear H
    have H := H1
    clear H1
    replace H := Option.bind_eq_some_iff.mp H
    obtain ⟨t496, A130, H⟩ := H
    have A13 := Aside0.mk A130
    clear A130
    replace H := Option.bind_eq_some_iff.mp H
    obtain ⟨t497, A140, H⟩ := H
    have A14 := Aside0.mk A140
    clear A140
    by_cases c15 : t496 ≤ t497
    ·rw [if_pos c15] at H
     have c15b0 : decide (t496 ≤ t497) = true := decide_eq_true c15
     clear c15
     replace H := Option.bind_eq_some_iff.mp H
     obtain ⟨t498, A160, H⟩ := H
     have A16 := Aside0.mk A160
     clear A160
     replace H := Option.bind_eq_some_iff.mp H
     obtain ⟨t499, A170, H⟩ := H
     have A17 := Aside0.mk A170
     clear A170
     obtain rfl := Option.some.inj H
     go_enter Tryz.func19, Tryz.ntmps19
     try go_wp2_with (first | ((with_reducible refine gate_dst (N := 6) rfl ?_); refine box_event ?hg (N := 6) ?hd (cs := #[.int .i64 a1_0, .int .i64 a1_1, .int .i64 a1_2]) (t := 31) ?hr ?_; (case hd => rfl); (case hg => rfl); (case hr => (go_simp; done)); intro gb480 hg w18 hbox hb; have n0_ := Aside0.mk (below_step (by repeat ((with_reducible (exact HB.out)))) hb); have n1_ := Aside0.mk (hbox); have n2_ := Aside0.mk ((by rw [hg]; exact (below_size (by repeat ((with_reducible (exact HB.out))))) : w.heap.size ≤ gb480)); have n3_ := Aside0.mk ((by rw [hg]; exact (below_size (by repeat ((with_reducible (exact HB.out))))) : w.heap.size ≤ gb480)); clear HB; have HB := n0_; have BK480 := n1_; have GW480 := n2_; have GE480 := n3_; clear n0_ n1_ n2_ n3_; clear hb hbox hg) | ((with_reducible refine gate_callee (f := 23) rfl ?_); refine goesL_ (some 13) rfl rfl Tryz.func23 (by kernel_rfl) rfl #[] rfl (by (try simp only [List.map_toArray, List.map_cons, List.map_nil]); (done)) ?_; (with_reducible refine (hortatorlaw9_begun.calls k  true _ A6.out).mono ?_); rintro e w19 ⟨rfl, hb⟩; refine ⟨_, rfl, ?_⟩; have n0_ := Aside0.mk (blk_below (g := gb480) (o := .cells #[.int .i64 a1_0, .int .i64 a1_1, .int .i64 a1_2] 31 (0, 0)) (by exact BK480.out) hb); have n1_ := Aside0.mk (below_step (by repeat ((with_reducible (exact HB.out)))) hb); clear BK480; clear HB; have BK480 := n0_; have HB := n1_; clear n0_ n1_; (try clear hb); (try clear hb2); (try clear hk); (try clear hi)) | ((with_reducible refine gate_callee (f := 24) rfl ?_); refine goesL_ (some 17) rfl rfl Tryz.func24 (by kernel_rfl) rfl #[.slice A0 l0.length c0] rfl (by (try simp only [List.map_toArray, List.map_cons, List.map_nil]); (rfl)) ?_; (with_reducible refine (hortatorlaw9_Loads.calls _ _ l0 t482 _ ?side1 ?side2 A8.out).mono ?_); (case side1 => repeat ((exact (Kd.C_below HR0.out HB.out)))); (case side2 => exact HC0.out); rintro e w20 ⟨v483, rfl, ho0, hb⟩; refine ⟨_, rfl, ?_⟩; have n0_ := Aside0.mk (Kd.R_lower (Kd.R_newB ho0 (g := gb480) (o := .cells #[.int .i64 a1_0, .int .i64 a1_1, .int .i64 a1_2] 31 (0, 0)) (by exact BK480.out)) (below_size (by repeat ((with_reducible (exact HB.out)))))); have n1_ := Aside0.mk (blk_below (g := gb480) (o := .cells #[.int .i64 a1_0, .int .i64 a1_1, .int .i64 a1_2] 31 (0, 0)) (by exact BK480.out) hb); have n2_ := Aside0.mk (below_step (by repeat ((with_reducible (exact HB.out)))) hb); clear BK480; clear HB; have HO484 := n0_; have BK480 := n1_; have HB := n2_; clear n0_ n1_ n2_; (try clear hb); (try clear hb2); (try clear hk); (try clear hi); (try clear ho0); obtain ⟨Ao21, co21, eo21⟩ := Kd.R_slice HO484.out; subst eo21))
     have n0_ := Aside0.mk (Kd.R_drew HO484.out)
     have n1_ := Aside0.mk (blk_drew BK480.out)
     have n2_ := Aside0.mk (below_drew1 HB.out)
     clear HO484
     clear BK480
     clear HB
     have HO484 := n0_
     have BK480 := n1_
     have HB := n2_
     clear n0_ n1_ n2_
     refine start_ (n := 6) (S := fun w' => w'.cell? ⟨gb480, 0, none⟩ = some (.int .i64 a1_0) ∧ w'.cell? ⟨gb480, 1, none⟩ = some (.int .i64 a1_1) ∧ w'.cell? ⟨gb480, 2, none⟩ = some (.int .i64 a1_2)) (ds := []) #[false, false, false, false, false, false] (by kernel_rfl) rfl rfl ⟨(blk_cell BK480.out 0).trans rfl, (blk_cell BK480.out 1).trans rfl, (blk_cell BK480.out 2).trans rfl⟩ (fun hHeld => ?_)
     generalize w20.drew = w22 at HO484 BK480 HB hHeld ⊢
     refine pure_ (i := 0) (N := some 27) (v := ?_) (a' := ?_) #[true, false, false, false, false, false] rfl rfl (by kernel_rfl) (fun _ _ _ h => h) (Or.inl ⟨by rfl, ?_⟩) ?_ ?_
     rotate_left
     ·intro w'
      go_simp
      with_reducible rfl
     rotate_left
     ·simp only [Act.put, List.setIfInBounds_toArray, List.set_cons_zero, List.set_cons_succ, i64_w, i32_w]
      rfl
     refine take_ (i := 2) (N := some 29) (v := ?_) (a' := ?_) #[true, false, true, false, false, false] rfl rfl (by kernel_rfl) (fun _ _ _ h => h) (Or.inl ⟨by rfl, ?_⟩) hHeld ?_ ?_
     rotate_left
     ·rintro w' ⟨s0, s1, s2⟩
      go_simp
      with_reducible rfl
     rotate_left
     ·simp only [Act.put, List.setIfInBounds_toArray, List.set_cons_zero, List.set_cons_succ, i64_w, i32_w]
      rfl
     refine join_ (σ := Value × Value) 2 #[true, true, true, true, false, false] (fun s_ => [(28, s_.1), (30, s_.2)]) (fun s_ w' => (w'.cell? ⟨gb480, 0, none⟩ = some (.int .i64 a1_0) ∧ w'.cell? ⟨gb480, 1, none⟩ = some (.int .i64 a1_1) ∧ w'.cell? ⟨gb480, 2, none⟩ = some (.int .i64 a1_2)) ∧ (Kd.R k31 31 w' w.heap.size (fun k_ => some k_ ≠ (s_.1 : Value).ownBlock ∧ some k_ ≠ (s_.2 : Value).ownBlock ∧ k_ ≠ gb480) (.slice Ao21 t482.length co21) t482) ∧ (Kd.R k31 31 w' w.heap.size (fun k_ => some k_ ≠ (.slice Ao21 t482.length co21 : Value).ownBlock ∧ some k_ ≠ (s_.2 : Value).ownBlock ∧ k_ ≠ gb480) s_.1 t485) ∧ (Kd.R k31 31 w' w.heap.size (fun k_ => some k_ ≠ (.slice Ao21 t482.length co21 : Value).ownBlock ∧ some k_ ≠ (s_.1 : Value).ownBlock ∧ k_ ≠ gb480) s_.2 y488) ∧ (w'.heap[gb480]? = some (.cells #[.int .i64 a1_0, .int .i64 a1_1, .int .i64 a1_2] 31 (0, 0))) ∧ (Below w.heap.size w w')) ?_ ?_
     rotate_left
     ·intro hCont
      refine two_ (i := 1) (j := 3) (Ni := some 28) (Nj := some 30) #[true, true, true, false, false, false] #[true, false, true, true, false, false] rfl rfl rfl rfl (by kernel_rfl) (by decide) (by decide) (fun K hK => ?_) (fun K hK => ?_)
      ·skip
       refine goes_ Tryz.func24 (by kernel_rfl) rfl #[.slice Ao21 t482.length co21] (by rfl) rfl rfl (by (try simp only [List.map_toArray, List.map_cons, List.map_nil]); (rfl)) ?_
       with_reducible refine (hortatorlaw9_Loads.calls _ _ t482 t485 _ ?side1 ?side2 A9.out).mono ?_
       (case side1 => repeat ((exact (Kd.R_reads' HO484.out).2.2)))
       (case side2 => exact (Kd.R_reads' HO484.out).2.1)
       rintro e w23 ⟨v486, rfl, ho0, hb⟩
       refine ⟨_, rfl, ?_⟩
       have n0_ := Aside0.mk (Kd.R_elder' (by exact HO484.out) (Kd.R_base ho0) hb)
       have n1_ := Aside0.mk (Kd.R_lower (Kd.R_newB (Kd.R_new' ho0 (Kd.R_lt (by exact HO484.out))) (g := gb480) (o := .cells #[.int .i64 a1_0, .int .i64 a1_1, .int .i64 a1_2] 31 (0, 0)) (by exact BK480.out)) (below_size (by repeat ((with_reducible (exact HB.out))))))
       have n2_ := Aside0.mk (blk_below (g := gb480) (o := .cells #[.int .i64 a1_0, .int .i64 a1_1, .int .i64 a1_2] 31 (0, 0)) (by exact BK480.out) hb)
       have n3_ := Aside0.mk (below_step (by repeat ((with_reducible (exact HB.out)))) hb)
       clear HO484
       clear BK480
       clear HB
       have HO484 := n0_
       have HO487 := n1_
       have BK480 := n2_
       have HB := n3_
       clear n0_ n1_ n2_ n3_
       (try clear hb)
       (try clear hb2)
       (try clear hk)
       (try clear hi)
       (try clear ho0)
       refine hK.out _ _ ⟨(blk_cell BK480.out 0).trans rfl, (blk_cell BK480.out 1).trans rfl, (blk_cell BK480.out 2).trans rfl⟩ (fun hHeld => ?_)
       clear hK K
       refine norm_ (a' := ?_) ?_ ?_
       rotate_left
       ·show Act.put _ (some 28) _ = _
        simp only [Act.put, List.setIfInBounds_toArray, List.set_cons_zero, List.set_cons_succ, i64_w, i32_w]
        rfl
       refine one_ (i := 3) (N := some 30) #[true, true, true, true, false, false] rfl rfl (by kernel_rfl) (by decide) (fun K hK => ?_)
       refine Kd.R_lit_step k31 _ 31 ?hg (N := 30) ?hd (xs := ([(⟨a1_0, a1_1, a1_2⟩ : S31)] : List (S31))) (inner := [.int .i64 a1_0, .int .i64 a1_1, .int .i64 a1_2]) (ok := fun _ => True) (okp := fun _ => True) ?hr ?hp (fun _ hk => hk) trivial (Below.refl _ _) (Nat.le_refl _) (by simp) ?_; (case hd => rfl); (case hg => rfl); (case hr => (go_simp; done)); (case hp => exact (Reps.c3 (show Kd.M k31 _ _ _ (⟨a1_0, a1_1, a1_2⟩ : S31) [.int .i64 a1_0, .int .i64 a1_1, .int .i64 a1_2] from (k31_mkM _ _ _ (⟨a1_0, a1_1, a1_2⟩ : S31) )) (Reps.none _ _)))
       intro v489 w24 ho25 hb hg_ hnew_
       clear hg_ hnew_
       ((rw [← Ny488.out] at ho25))
       have n0_ := Aside0.mk (Kd.R_elder' (by exact HO484.out) (Kd.R_base ho25) hb)
       have n1_ := Aside0.mk (Kd.R_elder' (by exact HO487.out) (Kd.R_base ho25) hb)
       have n2_ := Aside0.mk (Kd.R_lower (Kd.R_newB (Kd.R_new' (Kd.R_new' ho25 (Kd.R_lt (by exact HO484.out))) (Kd.R_lt (by exact HO487.out))) (g := gb480) (o := .cells #[.int .i64 a1_0, .int .i64 a1_1, .int .i64 a1_2] 31 (0, 0)) (by exact BK480.out)) (below_size (by repeat ((with_reducible (exact HB.out))))))
       have n3_ := Aside0.mk (blk_below (g := gb480) (o := .cells #[.int .i64 a1_0, .int .i64 a1_1, .int .i64 a1_2] 31 (0, 0)) (by exact BK480.out) hb)
       have n4_ := Aside0.mk (below_step (by repeat ((with_reducible (exact HB.out)))) hb)
       clear HO484
       clear HO487
       clear BK480
       clear HB
       have HO484 := n0_
       have HO487 := n1_
       have HO490 := n2_
       have BK480 := n3_
       have HB := n4_
       clear n0_ n1_ n2_ n3_ n4_
       clear hb ho25
       refine hK.out _ _ ⟨(blk_cell BK480.out 0).trans rfl, (blk_cell BK480.out 1).trans rfl, (blk_cell BK480.out 2).trans rfl⟩ (fun hHeld => ?_)
       clear hK K
       refine norm_ (a' := ?_) ?_ ?_
       rotate_left
       ·show Act.put _ (some 30) _ = _
        simp only [Act.put, List.setIfInBounds_toArray, List.set_cons_zero, List.set_cons_succ, i64_w, i32_w]
        rfl
       exact norm_ (by simp only [putAll, Act.put, List.setIfInBounds_toArray, List.set_cons_zero, List.set_cons_succ]) (hCont (v486, v489) _ ⟨hHeld, (by exact Kd.R_mono HO484.out (fun _ hk => ⟨hk.1.2, ⟨hk.2, hk.1.1.2⟩⟩)), (by exact Kd.R_mono HO487.out (fun _ hk => ⟨hk.1.1.2, ⟨hk.2, hk.1.2⟩⟩)), (by exact Kd.R_mono HO490.out (fun _ hk => ⟨hk.1.1.2, ⟨hk.1.2, hk.2⟩⟩)), (by exact BK480.out), (by repeat ((with_reducible (exact HB.out))))⟩)
      ·skip
       refine Kd.R_lit_step k31 _ 31 ?hg (N := 30) ?hd (xs := ([(⟨a1_0, a1_1, a1_2⟩ : S31)] : List (S31))) (inner := [.int .i64 a1_0, .int .i64 a1_1, .int .i64 a1_2]) (ok := fun _ => True) (okp := fun _ => True) ?hr ?hp (fun _ hk => hk) trivial (Below.refl _ _) (Nat.le_refl _) (by simp) ?_; (case hd => rfl); (case hg => rfl); (case hr => (go_simp; done)); (case hp => exact (Reps.c3 (show Kd.M k31 _ _ _ (⟨a1_0, a1_1, a1_2⟩ : S31) [.int .i64 a1_0, .int .i64 a1_1, .int .i64 a1_2] from (k31_mkM _ _ _ (⟨a1_0, a1_1, a1_2⟩ : S31) )) (Reps.none _ _)))
       intro v489 w23 ho24 hb hg_ hnew_
       clear hg_ hnew_
       ((rw [← Ny488.out] at ho24))
       have n0_ := Aside0.mk (Kd.R_elder' (by exact HO484.out) (Kd.R_base ho24) hb)
       have n1_ := Aside0.mk (Kd.R_lower (Kd.R_newB (Kd.R_new' ho24 (Kd.R_lt (by exact HO484.out))) (g := gb480) (o := .cells #[.int .i64 a1_0, .int .i64 a1_1, .int .i64 a1_2] 31 (0, 0)) (by exact BK480.out)) (below_size (by repeat ((with_reducible (exact HB.out))))))
       have n2_ := Aside0.mk (blk_below (g := gb480) (o := .cells #[.int .i64 a1_0, .int .i64 a1_1, .int .i64 a1_2] 31 (0, 0)) (by exact BK480.out) hb)
       have n3_ := Aside0.mk (below_step (by repeat ((with_reducible (exact HB.out)))) hb)
       clear HO484
       clear BK480
       clear HB
       have HO484 := n0_
       have HO490 := n1_
       have BK480 := n2_
       have HB := n3_
       clear n0_ n1_ n2_ n3_
       clear hb ho24
       refine hK.out _ _ ⟨(blk_cell BK480.out 0).trans rfl, (blk_cell BK480.out 1).trans rfl, (blk_cell BK480.out 2).trans rfl⟩ (fun hHeld => ?_)
       clear hK K
       refine norm_ (a' := ?_) ?_ ?_
       rotate_left
       ·show Act.put _ (some 30) _ = _
        simp only [Act.put, List.setIfInBounds_toArray, List.set_cons_zero, List.set_cons_succ, i64_w, i32_w]
        rfl
       refine one_ (i := 1) (N := some 28) #[true, true, true, true, false, false] rfl rfl (by kernel_rfl) (by decide) (fun K hK => ?_)
       refine goes_ Tryz.func24 (by kernel_rfl) rfl #[.slice Ao21 t482.length co21] (by rfl) rfl rfl (by (try simp only [List.map_toArray, List.map_cons, List.map_nil]); (rfl)) ?_
       with_reducible refine (hortatorlaw9_Loads.calls _ _ t482 t485 _ ?side1 ?side2 A9.out).mono ?_
       (case side1 => repeat ((exact (Kd.R_reads' HO484.out).2.2)))
       (case side2 => exact (Kd.R_reads' HO484.out).2.1)
       rintro e w25 ⟨v486, rfl, ho0, hb⟩
       refine ⟨_, rfl, ?_⟩
       have n0_ := Aside0.mk (Kd.R_elder' (by exact HO484.out) (Kd.R_base ho0) hb)
       have n1_ := Aside0.mk (Kd.R_elder' (by exact HO490.out) (Kd.R_base ho0) hb)
       have n2_ := Aside0.mk (Kd.R_lower (Kd.R_newB (Kd.R_new' (Kd.R_new' ho0 (Kd.R_lt (by exact HO484.out))) (Kd.R_lt (by exact HO490.out))) (g := gb480) (o := .cells #[.int .i64 a1_0, .int .i64 a1_1, .int .i64 a1_2] 31 (0, 0)) (by exact BK480.out)) (below_size (by repeat ((with_reducible (exact HB.out))))))
       have n3_ := Aside0.mk (blk_below (g := gb480) (o := .cells #[.int .i64 a1_0, .int .i64 a1_1, .int .i64 a1_2] 31 (0, 0)) (by exact BK480.out) hb)
       have n4_ := Aside0.mk (below_step (by repeat ((with_reducible (exact HB.out)))) hb)
       clear HO484
       clear HO490
       clear BK480
       clear HB
       have HO484 := n0_
       have HO490 := n1_
       have HO487 := n2_
       have BK480 := n3_
       have HB := n4_
       clear n0_ n1_ n2_ n3_ n4_
       (try clear hb)
       (try clear hb2)
       (try clear hk)
       (try clear hi)
       (try clear ho0)
       refine hK.out _ _ ⟨(blk_cell BK480.out 0).trans rfl, (blk_cell BK480.out 1).trans rfl, (blk_cell BK480.out 2).trans rfl⟩ (fun hHeld => ?_)
       clear hK K
       refine norm_ (a' := ?_) ?_ ?_
       rotate_left
       ·show Act.put _ (some 28) _ = _
        simp only [Act.put, List.setIfInBounds_toArray, List.set_cons_zero, List.set_cons_succ, i64_w, i32_w]
        rfl
       exact norm_ (by simp only [putAll, Act.put, List.setIfInBounds_toArray, List.set_cons_zero, List.set_cons_succ]) (hCont (v486, v489) _ ⟨hHeld, (by exact Kd.R_mono HO484.out (fun _ hk => ⟨hk.2, ⟨hk.1.2, hk.1.1.2⟩⟩)), (by exact Kd.R_mono HO487.out (fun _ hk => ⟨hk.1.1.2, ⟨hk.1.2, hk.2⟩⟩)), (by exact Kd.R_mono HO490.out (fun _ hk => ⟨hk.1.1.2, ⟨hk.2, hk.1.2⟩⟩)), (by exact BK480.out), (by repeat ((with_reducible (exact HB.out))))⟩)
     rintro ⟨v486, v489⟩ w26 ⟨hS_, h0_, h1_, h2_, h3_, h4_⟩
     have n0_ : Aside0 (Kd.R k31 31 w26 w.heap.size (fun k_ => some k_ ≠ (v486 : Value).ownBlock ∧ some k_ ≠ (v489 : Value).ownBlock ∧ k_ ≠ gb480) (.slice Ao21 t482.length co21) t482) := ⟨h0_⟩
     have n1_ : Aside0 (Kd.R k31 31 w26 w.heap.size (fun k_ => some k_ ≠ (.slice Ao21 t482.length co21 : Value).ownBlock ∧ some k_ ≠ (v489 : Value).ownBlock ∧ k_ ≠ gb480) v486 t485) := ⟨h1_⟩
     have n2_ : Aside0 (Kd.R k31 31 w26 w.heap.size (fun k_ => some k_ ≠ (.slice Ao21 t482.length co21 : Value).ownBlock ∧ some k_ ≠ (v486 : Value).ownBlock ∧ k_ ≠ gb480) v489 y488) := ⟨h2_⟩
     have n3_ : Aside0 (w26.heap[gb480]? = some (.cells #[.int .i64 a1_0, .int .i64 a1_1, .int .i64 a1_2] 31 (0, 0))) := ⟨h3_⟩
     have n4_ : Aside0 (Below w.heap.size w w26) := ⟨h4_⟩
     clear HO484
     clear BK480
     clear HB
     clear h0_ h1_ h2_ h3_ h4_
     have HO484 := n0_
     have HO487 := n1_
     have HO490 := n2_
     have BK480 := n3_
     have HB := n4_
     clear n0_ n1_ n2_ n3_ n4_
     have hHeld : w26.cell? ⟨gb480, 0, none⟩ = some (.int .i64 a1_0) ∧ w26.cell? ⟨gb480, 1, none⟩ = some (.int .i64 a1_1) ∧ w26.cell? ⟨gb480, 2, none⟩ = some (.int .i64 a1_2) := hS_
     obtain ⟨Ao28, co28, eo28⟩ := Kd.R_slice HO490.out
     ((subst eo28))
     refine norm_ (a' := ?_) ?_ ?_
     rotate_left
     ·simp only [putAll, Act.put, List.setIfInBounds_toArray, List.set_cons_zero, List.set_cons_succ]
      rfl
     refine one_ (i := 4) (N := some 31) #[true, true, true, true, true, false] rfl rfl (by kernel_rfl) (by decide) (fun K hK => ?_)
     refine Kd.R_append_rows_step k31 (w0 := w) w.heap.size (by rfl) (.tmp 28) (.tmp 30) 22 31 (.agg #[(.int .i64 0), (.int .i64 0), (.int .i64 0)]) 24 rfl Tryz.underlying22 info31 rfl (by decide) (by omega) v486 t485 y488 _ _ _ (fun k_ => some k_ ≠ (.slice Ao21 t482.length co21 : Value).ownBlock ∧ some k_ ≠ (.slice Ao28 y488.length co28 : Value).ownBlock ∧ k_ ≠ gb480) (fun _ => False) rfl rfl ?aO ?aR (fun _ _ h => h) (fun _ h => h.elim) ?aF ?aB ?aS ?aL ?_
     (case aR => repeat ((exact (Kd.R_reads' HO490.out).2.2)))
     (case aB => exact (by repeat ((with_reducible (exact HB.out)))))
     (case aF => exact (fun k_ hk => ⟨Kd.fresh' (Kd.R_lt (by exact HO484.out)) k_ hk, Kd.fresh' (Kd.R_lt (by exact HO490.out)) k_ hk, Kd.freshB (g := gb480) (o := .cells #[.int .i64 a1_0, .int .i64 a1_1, .int .i64 a1_2] 31 (0, 0)) (by exact BK480.out) k_ hk⟩))
     (case aO => exact (by exact HO487.out))
     (case aS => exact (below_size (by repeat ((with_reducible (exact HB.out))))))
     (case aL => have := LMc10.out; omega)
     intro v492 w27 ho hb hg hat
     rw [← Ny491.out] at ho
     have n0_ := Aside0.mk (blk_grown (g := gb480) (o := .cells #[.int .i64 a1_0, .int .i64 a1_1, .int .i64 a1_2] 31 (0, 0)) (by exact BK480.out) hg (Kd.R_away HO487.out (fun _ hk => hk.2.2)))
     have n1_ := Aside0.mk (Kd.R_after (ok := (fun k_ => some k_ ≠ (.slice Ao28 y488.length co28 : Value).ownBlock ∧ k_ ≠ gb480)) (by exact Kd.R_mono HO484.out (fun _ hk => ⟨⟨hk.2.1, hk.2.2⟩, hk.1⟩)) hg hat)
     have n2_ := Aside0.mk (Kd.R_after (ok := (fun k_ => some k_ ≠ (.slice Ao21 t482.length co21 : Value).ownBlock ∧ k_ ≠ gb480)) (by exact Kd.R_mono HO490.out (fun _ hk => ⟨⟨hk.1, hk.2.2⟩, hk.2.1⟩)) hg hat)
     have n3_ := Aside0.mk (hb)
     have n4_ := Aside0.mk (ho)
     clear BK480
     clear HO484
     clear HO490
     clear HB
     clear HO487
     have BK480 := n0_
     have HO484 := n1_
     have HO490 := n2_
     have HB := n3_
     have HO493 := n4_
     clear n0_ n1_ n2_ n3_ n4_
     clear ho hb hg hat
     refine hK.out _ _ ⟨(blk_cell BK480.out 0).trans rfl, (blk_cell BK480.out 1).trans rfl, (blk_cell BK480.out 2).trans rfl⟩ (fun hHeld => ?_)
     clear hK K
     refine norm_ (a' := ?_) ?_ ?_
     rotate_left
     ·show Act.put _ (some 31) _ = _
      simp only [Act.put, List.setIfInBounds_toArray, List.set_cons_zero, List.set_cons_succ, i64_w, i32_w]
      rfl
     refine pure_ (i := 5) (N := some 12) (v := ?_) (a' := ?_) #[true, true, true, true, true, true] rfl rfl (by kernel_rfl) (fun _ _ _ h => h) (Or.inl ⟨by rfl, ?_⟩) ?_ ?_
     rotate_left
     ·intro w'
      go_simp
      with_reducible rfl
     rotate_left
     ·simp only [Act.put, List.setIfInBounds_toArray, List.set_cons_zero, List.set_cons_succ, i64_w, i32_w]
      rfl
     refine done_ (by kernel_rfl) ?_
     obtain ⟨Ao29, co29, eo29⟩ := Kd.R_slice HO493.out
     subst eo29
     try go_wp2_with (first | ((with_reducible refine gate_callee (f := 34) rfl ?_); refine goesL_ (some 33) rfl rfl Tryz.func34 (by kernel_rfl) rfl #[.slice Ao29 y491.length co29] rfl (by (try simp only [List.map_toArray, List.map_cons, List.map_nil]); (rfl)) ?_; (with_reducible refine (demand_Fits.calls k _ _ y491 true _ ?side1 ?side2 A11.out).mono ?_); (case side1 => repeat ((exact (Kd.R_reads' HO493.out).2.2))); (case side2 => exact (Kd.R_reads' HO493.out).2.1); rintro e w30 ⟨rfl, hb⟩; refine ⟨_, rfl, ?_⟩; have n0_ := Aside0.mk (Kd.R_below (by exact HO484.out) hb); have n1_ := Aside0.mk (Kd.R_below (by exact HO490.out) hb); have n2_ := Aside0.mk (Kd.R_below (by exact HO493.out) hb); have n3_ := Aside0.mk (blk_below (g := gb480) (o := .cells #[.int .i64 a1_0, .int .i64 a1_1, .int .i64 a1_2] 31 (0, 0)) (by exact BK480.out) hb); have n4_ := Aside0.mk (below_step (by repeat ((with_reducible (exact HB.out)))) hb); clear HO484; clear HO490; clear HO493; clear BK480; clear HB; have HO484 := n0_; have HO490 := n1_; have HO493 := n2_; have BK480 := n3_; have HB := n4_; clear n0_ n1_ n2_ n3_ n4_; (try clear hb); (try clear hb2); (try clear hk); (try clear hi)) | ((with_reducible refine gate_callee (f := 36) rfl ?_); refine goesL_ (some 45) rfl rfl Tryz.func36 (by kernel_rfl) rfl #[.slice Ao29 y491.length co29, .int .i64 (wrap64 (1 + (Go.bits .and .i64 a2 31))), .int .i64 (wrap64 (1 + (Go.bits .and .i64 a3 63))), .int .i64 (wrap64 (1 + (Go.bits .and .i64 a4 31)))] rfl (by (try simp only [List.map_toArray, List.map_cons, List.map_nil]); (rfl)) ?_; (with_reducible refine (most_Fit.calls k _ _ y491 (wrap64 (1 + (Go.bits .and .i64 a2 31))) (wrap64 (1 + (Go.bits .and .i64 a3 63))) (wrap64 (1 + (Go.bits .and .i64 a4 31))) t496 _ ?side1 ?side2 A13.out).mono ?_); (case side1 => repeat ((exact (Kd.R_reads' HO493.out).2.2))); (case side2 => exact (Kd.R_reads' HO493.out).2.1); rintro e w31 ⟨rfl, hb⟩; refine ⟨_, rfl, ?_⟩; have n0_ := Aside0.mk (Kd.R_below (by exact HO484.out) hb); have n1_ := Aside0.mk (Kd.R_below (by exact HO490.out) hb); have n2_ := Aside0.mk (Kd.R_below (by exact HO493.out) hb); have n3_ := Aside0.mk (blk_below (g := gb480) (o := .cells #[.int .i64 a1_0, .int .i64 a1_1, .int .i64 a1_2] 31 (0, 0)) (by exact BK480.out) hb); have n4_ := Aside0.mk (below_step (by repeat ((with_reducible (exact HB.out)))) hb); clear HO484; clear HO490; clear HO493; clear BK480; clear HB; have HO484 := n0_; have HO490 := n1_; have HO493 := n2_; have BK480 := n3_; have HB := n4_; clear n0_ n1_ n2_ n3_ n4_; (try clear hb); (try clear hb2); (try clear hk); (try clear hi)) | ((with_reducible refine gate_callee (f := 36) rfl ?_); refine goesL_ (some 50) rfl rfl Tryz.func36 (by kernel_rfl) rfl #[.slice Ao21 t482.length co21, .int .i64 (wrap64 (1 + (Go.bits .and .i64 a2 31))), .int .i64 (wrap64 (1 + (Go.bits .and .i64 a3 63))), .int .i64 (wrap64 (1 + (Go.bits .and .i64 a4 31)))] rfl (by (try simp only [List.map_toArray, List.map_cons, List.map_nil]); (rfl)) ?_; (with_reducible refine (most_Fit.calls k _ _ t482 (wrap64 (1 + (Go.bits .and .i64 a2 31))) (wrap64 (1 + (Go.bits .and .i64 a3 63))) (wrap64 (1 + (Go.bits .and .i64 a4 31))) t497 _ ?side1 ?side2 A14.out).mono ?_); (case side1 => repeat ((exact (Kd.R_reads' HO484.out).2.2))); (case side2 => exact (Kd.R_reads' HO484.out).2.1); rintro e w32 ⟨rfl, hb⟩; refine ⟨_, rfl, ?_⟩; have n0_ := Aside0.mk (Kd.R_below (by exact HO484.out) hb); have n1_ := Aside0.mk (Kd.R_below (by exact HO490.out) hb); have n2_ := Aside0.mk (Kd.R_below (by exact HO493.out) hb); have n3_ := Aside0.mk (blk_below (g := gb480) (o := .cells #[.int .i64 a1_0, .int .i64 a1_1, .int .i64 a1_2] 31 (0, 0)) (by exact BK480.out) hb); have n4_ := Aside0.mk (below_step (by repeat ((with_reducible (exact HB.out)))) hb); clear HO484; clear HO490; clear HO493; clear BK480; clear HB; have HO484 := n0_; have HO490 := n1_; have HO493 := n2_; have BK480 := n3_; have HB := n4_; clear n0_ n1_ n2_ n3_ n4_; (try clear hb); (try clear hb2); (try clear hk); (try clear hi)) | (go_at_call 36; (with_reducible refine (most_Fit.calls k _ _ t482 (wrap64 (1 + (Go.bits .and .i64 a2 31))) (wrap64 (1 + (Go.bits .and .i64 a3 63))) (wrap64 (1 + (Go.bits .and .i64 a4 31))) t498 _ ?side1 ?side2 A16.out).mono ?_); (case side1 => repeat ((exact (Kd.R_reads' HO484.out).2.2))); (case side2 => exact (Kd.R_reads' HO484.out).2.1); rintro e w33 ⟨rfl, hb⟩; have n0_ := Aside0.mk (Kd.R_below (by exact HO484.out) hb); have n1_ := Aside0.mk (Kd.R_below (by exact HO490.out) hb); have n2_ := Aside0.mk (Kd.R_below (by exact HO493.out) hb); have n3_ := Aside0.mk (blk_below (g := gb480) (o := .cells #[.int .i64 a1_0, .int .i64 a1_1, .int .i64 a1_2] 31 (0, 0)) (by exact BK480.out) hb); have n4_ := Aside0.mk (below_step (by repeat ((with_reducible (exact HB.out)))) hb); clear HO484; clear HO490; clear HO493; clear BK480; clear HB; have HO484 := n0_; have HO490 := n1_; have HO493 := n2_; have BK480 := n3_; have HB := n4_; clear n0_ n1_ n2_ n3_ n4_; (try clear hb); (try clear hb2); (try clear hk); (try clear hi)) | (go_at_call 36; (with_reducible refine (most_Fit.calls k _ _ t482 (wrap64 (1 + (Go.bits .and .i64 a2 31))) (wrap64 (1 + (Go.bits .and .i64 a3 63))) (wrap64 ((wrap64 (1 + (Go.bits .and .i64 a4 31))) + 1)) t499 _ ?side1 ?side2 A17.out).mono ?_); (case side1 => repeat ((exact (Kd.R_reads' HO484.out).2.2))); (case side2 => exact (Kd.R_reads' HO484.out).2.1); rintro e w34 ⟨rfl, hb⟩; have n0_ := Aside0.mk (Kd.R_below (by exact HO484.out) hb); have n1_ := Aside0.mk (Kd.R_below (by exact HO490.out) hb); have n2_ := Aside0.mk (Kd.R_below (by exact HO493.out) hb); have n3_ := Aside0.mk (blk_below (g := gb480) (o := .cells #[.int .i64 a1_0, .int .i64 a1_1, .int .i64 a1_2] 31 (0, 0)) (by exact BK480.out) hb); have n4_ := Aside0.mk (below_step (by repeat ((with_reducible (exact HB.out)))) hb); clear HO484; clear HO490; clear HO493; clear BK480; clear HB; have HO484 := n0_; have HO490 := n1_; have HO493 := n2_; have BK480 := n3_; have HB := n4_; clear n0_ n1_ n2_ n3_ n4_; (try clear hb); (try clear hb2); (try clear hk); (try clear hi)))
     go_ret
     exact ⟨by (rfl), by repeat ((with_reducible (exact HB.out)))⟩
    ·rw [if_neg c15] at H
     exact absurd H (by simp)
   ·replace c12 := Bool.eq_false_iff.mpr c12
    subst c12
    have H1 : ((most_Fit.f k y491 (wrap64 (1 + (Go.bits .and .i64 a2 31))) (wrap64 (1 + (Go.bits .and .i64 a3 63))) (wrap64 (1 + (Go.bits .and .i64 a4 31)))).bind fun t495 => (some (t495 == 0))) = some r := by rw [if_neg (show ¬ (false = true) by decide)] at H; exact H
    clear H
    have H := H1
    clear H1
    replace H := Option.bind_eq_some_iff.mp H
    obtain ⟨t495, A350, H⟩ := H
    have A35 := Aside0.mk A350
    clear A350
    obtain rfl := Option.some.inj H
    go_enter Tryz.func19, Tryz.ntmps19
    try go_wp2_with (first | ((with_reducible refine gate_dst (N := 6) rfl ?_); refine box_event ?hg (N := 6) ?hd (cs := #[.int .i64 a1_0, .int .i64 a1_1, .int .i64 a1_2]) (t := 31) ?hr ?_; (case hd => rfl); (case hg => rfl); (case hr => (go_simp; done)); intro gb480 hg w36 hbox hb; have n0_ := Aside0.mk (below_step (by repeat ((with_reducible (exact HB.out)))) hb); have n1_ := Aside0.mk (hbox); have n2_ := Aside0.mk ((by rw [hg]; exact (below_size (by repeat ((with_reducible (exact HB.out))))) : w.heap.size ≤ gb480)); have n3_ := Aside0.mk ((by rw [hg]; exact (below_size (by repeat ((with_reducible (exact HB.out))))) : w.heap.size ≤ gb480)); clear HB; have HB := n0_; have BK480 := n1_; have GW480 := n2_; have GE480 := n3_; clear n0_ n1_ n2_ n3_; clear hb hbox hg) | ((with_reducible refine gate_callee (f := 23) rfl ?_); refine goesL_ (some 13) rfl rfl Tryz.func23 (by kernel_rfl) rfl #[] rfl (by (try simp only [List.map_toArray, List.map_cons, List.map_nil]); (done)) ?_; (with_reducible refine (hortatorlaw9_begun.calls k  true _ A6.out).mono ?_); rintro e w37 ⟨rfl, hb⟩; refine ⟨_, rfl, ?_⟩; have n0_ := Aside0.mk (blk_below (g := gb480) (o := .cells #[.int .i64 a1_0, .int .i64 a1_1, .int .i64 a1_2] 31 (0, 0)) (by exact BK480.out) hb); have n1_ := Aside0.mk (below_step (by repeat ((with_reducible (exact HB.out)))) hb); clear BK480; clear HB; have BK480 := n0_; have HB := n1_; clear n0_ n1_; (try clear hb); (try clear hb2); (try clear hk); (try clear hi)) | ((with_reducible refine gate_callee (f := 24) rfl ?_); refine goesL_ (some 17) rfl rfl Tryz.func24 (by kernel_rfl) rfl #[.slice A0 l0.length c0] rfl (by (try simp only [List.map_toArray, List.map_cons, List.map_nil]); (rfl)) ?_; (with_reducible refine (hortatorlaw9_Loads.calls _ _ l0 t482 _ ?side1 ?side2 A8.out).mono ?_); (case side1 => repeat ((exact (Kd.C_below HR0.out HB.out)))); (case side2 => exact HC0.out); rintro e w38 ⟨v483, rfl, ho0, hb⟩; refine ⟨_, rfl, ?_⟩; have n0_ := Aside0.mk (Kd.R_lower (Kd.R_newB ho0 (g := gb480) (o := .cells #[.int .i64 a1_0, .int .i64 a1_1, .int .i64 a1_2] 31 (0, 0)) (by exact BK480.out)) (below_size (by repeat ((with_reducible (exact HB.out)))))); have n1_ := Aside0.mk (blk_below (g := gb480) (o := .cells #[.int .i64 a1_0, .int .i64 a1_1, .int .i64 a1_2] 31 (0, 0)) (by exact BK480.out) hb); have n2_ := Aside0.mk (below_step (by repeat ((with_reducible (exact HB.out)))) hb); clear BK480; clear HB; have HO484 := n0_; have BK480 := n1_; have HB := n2_; clear n0_ n1_ n2_; (try clear hb); (try clear hb2); (try clear hk); (try clear hi); (try clear ho0); obtain ⟨Ao39, co39, eo39⟩ := Kd.R_slice HO484.out; subst eo39))
    have n0_ := Aside0.mk (Kd.R_drew HO484.out)
    have n1_ := Aside0.mk (blk_drew BK480.out)
    have n2_ := Aside0.mk (below_drew1 HB.out)
    clear HO484
    clear BK480
    clear HB
    have HO484 := n0_
    have BK480 := n1_
    have HB := n2_
    clear n0_ n1_ n2_
    refine start_ (n := 6) (S := fun w' => w'.cell? ⟨gb480, 0, none⟩ = some (.int .i64 a1_0) ∧ w'.cell? ⟨gb480, 1, none⟩ = some (.int .i64 a1_1) ∧ w'.cell? ⟨gb480, 2, none⟩ = some (.int .i64 a1_2)) (ds := []) #[false, false, false, false, false, false] (by kernel_rfl) rfl rfl ⟨(blk_cell BK480.out 0).trans rfl, (blk_cell BK480.out 1).trans rfl, (blk_cell BK480.out 2).trans rfl⟩ (fun hHeld => ?_)
    generalize w38.drew = w40 at HO484 BK480 HB hHeld ⊢
    refine pure_ (i := 0) (N := some 27) (v := ?_) (a' := ?_) #[true, false, false, false, false, false] rfl rfl (by kernel_rfl) (fun _ _ _ h => h) (Or.inl ⟨by rfl, ?_⟩) ?_ ?_
    rotate_left
    ·intro w'
     go_simp
     with_reducible rfl
    rotate_left
    ·simp only [Act.put, List.setIfInBounds_toArray, List.set_cons_zero, List.set_cons_succ, i64_w, i32_w]
     rfl
    refine take_ (i := 2) (N := some 29) (v := ?_) (a' := ?_) #[true, false, true, false, false, false] rfl rfl (by kernel_rfl) (fun _ _ _ h => h) (Or.inl ⟨by rfl, ?_⟩) hHeld ?_ ?_
    rotate_left
    ·rintro w' ⟨s0, s1, s2⟩
     go_simp
     with_reducible rfl
    rotate_left
    ·simp only [Act.put, List.setIfInBounds_toArray, List.set_cons_zero, List.set_cons_succ, i64_w, i32_w]
     rfl
    refine join_ (σ := Value × Value) 2 #[true, true, true, true, false, false] (fun s_ => [(28, s_.1), (30, s_.2)]) (fun s_ w' => (w'.cell? ⟨gb480, 0, none⟩ = some (.int .i64 a1_0) ∧ w'.cell? ⟨gb480, 1, none⟩ = some (.int .i64 a1_1) ∧ w'.cell? ⟨gb480, 2, none⟩ = some (.int .i64 a1_2)) ∧ (Kd.R k31 31 w' w.heap.size (fun k_ => some k_ ≠ (s_.1 : Value).ownBlock ∧ some k_ ≠ (s_.2 : Value).ownBlock ∧ k_ ≠ gb480) (.slice Ao39 t482.length co39) t482) ∧ (Kd.R k31 31 w' w.heap.size (fun k_ => some k_ ≠ (.slice Ao39 t482.length co39 : Value).ownBlock ∧ some k_ ≠ (s_.2 : Value).ownBlock ∧ k_ ≠ gb480) s_.1 t485) ∧ (Kd.R k31 31 w' w.heap.size (fun k_ => some k_ ≠ (.slice Ao39 t482.length co39 : Value).ownBlock ∧ some k_ ≠ (s_.1 : Value).ownBlock ∧ k_ ≠ gb480) s_.2 y488) ∧ (w'.heap[gb480]? = some (.cells #[.int .i64 a1_0, .int .i64 a1_1, .int .i64 a1_2] 31 (0, 0))) ∧ (Below w.heap.size w w')) ?_ ?_
    rotate_left
    ·intro hCont
     refine two_ (i := 1) (j := 3) (Ni := some 28) (Nj := some 30) #[true, true, true, false, false, false] #[true, false, true, true, false, false] rfl rfl rfl rfl (by kernel_rfl) (by decide) (by decide) (fun K hK => ?_) (fun K hK => ?_)
     ·skip
      refine goes_ Tryz.func24 (by kernel_rfl) rfl #[.slice Ao39 t482.length co39] (by rfl) rfl rfl (by (try simp only [List.map_toArray, List.map_cons, List.map_nil]); (rfl)) ?_
      with_reducible refine (hortatorlaw9_Loads.calls _ _ t482 t485 _ ?side1 ?side2 A9.out).mono ?_
      (case side1 => repeat ((exact (Kd.R_reads' HO484.out).2.2)))
      (case side2 => exact (Kd.R_reads' HO484.out).2.1)
      rintro e w41 ⟨v486, rfl, ho0, hb⟩
      refine ⟨_, rfl, ?_⟩
      have n0_ := Aside0.mk (Kd.R_elder' (by exact HO484.out) (Kd.R_base ho0) hb)
      have n1_ := Aside0.mk (Kd.R_lower (Kd.R_newB (Kd.R_new' ho0 (Kd.R_lt (by exact HO484.out))) (g := gb480) (o := .cells #[.int .i64 a1_0, .int .i64 a1_1, .int .i64 a1_2] 31 (0, 0)) (by exact BK480.out)) (below_size (by repeat ((with_reducible (exact HB.out))))))
      have n2_ := Aside0.mk (blk_below (g := gb480) (o := .cells #[.int .i64 a1_0, .int .i64 a1_1, .int .i64 a1_2] 31 (0, 0)) (by exact BK480.out) hb)
      have n3_ := Aside0.mk (below_step (by repeat ((with_reducible (exact HB.out)))) hb)
      clear HO484
      clear BK480
      clear HB
      have HO484 := n0_
      have HO487 := n1_
      have BK480 := n2_
      have HB := n3_
      clear n0_ n1_ n2_ n3_
      (try clear hb)
      (try clear hb2)
      (try clear hk)
      (try clear hi)
      (try clear ho0)
      refine hK.out _ _ ⟨(blk_cell BK480.out 0).trans rfl, (blk_cell BK480.out 1).trans rfl, (blk_cell BK480.out 2).trans rfl⟩ (fun hHeld => ?_)
      clear hK K
      refine norm_ (a' := ?_) ?_ ?_
      rotate_left
      ·show Act.put _ (some 28) _ = _
       simp only [Act.put, List.setIfInBounds_toArray, List.set_cons_zero, List.set_cons_succ, i64_w, i32_w]
       rfl
      refine one_ (i := 3) (N := some 30) #[true, true, true, true, false, false] rfl rfl (by kernel_rfl) (by decide) (fun K hK => ?_)
      refine Kd.R_lit_step k31 _ 31 ?hg (N := 30) ?hd (xs := ([(⟨a1_0, a1_1, a1_2⟩ : S31)] : List (S31))) (inner := [.int .i64 a1_0, .int .i64 a1_1, .int .i64 a1_2]) (ok := fun _ => True) (okp := fun _ => True) ?hr ?hp (fun _ hk => hk) trivial (Below.refl _ _) (Nat.le_refl _) (by simp) ?_; (case hd => rfl); (case hg => rfl); (case hr => (go_simp; done)); (case hp => exact (Reps.c3 (show Kd.M k31 _ _ _ (⟨a1_0, a1_1, a1_2⟩ : S31) [.int .i64 a1_0, .int .i64 a1_1, .int .i64 a1_2] from (k31_mkM _ _ _ (⟨a1_0, a1_1, a1_2⟩ : S31) )) (Reps.none _ _)))
      intro v489 w42 ho43 hb hg_ hnew_
      clear hg_ hnew_
      ((rw [← Ny488.out] at ho43))
      have n0_ := Aside0.mk (Kd.R_elder' (by exact HO484.out) (Kd.R_base ho43) hb)
      have n1_ := Aside0.mk (Kd.R_elder' (by exact HO487.out) (Kd.R_base ho43) hb)
      have n2_ := Aside0.mk (Kd.R_lower (Kd.R_newB (Kd.R_new' (Kd.R_new' ho43 (Kd.R_lt (by exact HO484.out))) (Kd.R_lt (by exact HO487.out))) (g := gb480) (o := .cells #[.int .i64 a1_0, .int .i64 a1_1, .int .i64 a1_2] 31 (0, 0)) (by exact BK480.out)) (below_size (by repeat ((with_reducible (exact HB.out))))))
      have n3_ := Aside0.mk (blk_below (g := gb480) (o := .cells #[.int .i64 a1_0, .int .i64 a1_1, .int .i64 a1_2] 31 (0, 0)) (by exact BK480.out) hb)
      have n4_ := Aside0.mk (below_step (by repeat ((with_reducible (exact HB.out)))) hb)
      clear HO484
      clear HO487
      clear BK480
      clear HB
      have HO484 := n0_
      have HO487 := n1_
      have HO490 := n2_
      have BK480 := n3_
      have HB := n4_
      clear n0_ n1_ n2_ n3_ n4_
      clear hb ho43
      refine hK.out _ _ ⟨(blk_cell BK480.out 0).trans rfl, (blk_cell BK480.out 1).trans rfl, (blk_cell BK480.out 2).trans rfl⟩ (fun hHeld => ?_)
      clear hK K
      refine norm_ (a' := ?_) ?_ ?_
      rotate_left
      ·show Act.put _ (some 30) _ = _
       simp only [Act.put, List.setIfInBounds_toArray, List.set_cons_zero, List.set_cons_succ, i64_w, i32_w]
       rfl
      exact norm_ (by simp only [putAll, Act.put, List.setIfInBounds_toArray, List.set_cons_zero, List.set_cons_succ]) (hCont (v486, v489) _ ⟨hHeld, (by exact Kd.R_mono HO484.out (fun _ hk => ⟨hk.1.2, ⟨hk.2, hk.1.1.2⟩⟩)), (by exact Kd.R_mono HO487.out (fun _ hk => ⟨hk.1.1.2, ⟨hk.2, hk.1.2⟩⟩)), (by exact Kd.R_mono HO490.out (fun _ hk => ⟨hk.1.1.2, ⟨hk.1.2, hk.2⟩⟩)), (by exact BK480.out), (by repeat ((with_reducible (exact HB.out))))⟩)
     ·skip
      refine Kd.R_lit_step k31 _ 31 ?hg (N := 30) ?hd (xs := ([(⟨a1_0, a1_1, a1_2⟩ : S31)] : List (S31))) (inner := [.int .i64 a1_0, .int .i64 a1_1, .int .i64 a1_2]) (ok := fun _ => True) (okp := fun _ => True) ?hr ?hp (fun _ hk => hk) trivial (Below.refl _ _) (Nat.le_refl _) (by simp) ?_; (case hd => rfl); (case hg => rfl); (case hr => (go_simp; done)); (case hp => exact (Reps.c3 (show Kd.M k31 _ _ _ (⟨a1_0, a1_1, a1_2⟩ : S31) [.int .i64 a1_0, .int .i64 a1_1, .int .i64 a1_2] from (k31_mkM _ _ _ (⟨a1_0, a1_1, a1_2⟩ : S31) )) (Reps.none _ _)))
      intro v489 w41 ho42 hb hg_ hnew_
      clear hg_ hnew_
      ((rw [← Ny488.out] at ho42))
      have n0_ := Aside0.mk (Kd.R_elder' (by exact HO484.out) (Kd.R_base ho42) hb)
      have n1_ := Aside0.mk (Kd.R_lower (Kd.R_newB (Kd.R_new' ho42 (Kd.R_lt (by exact HO484.out))) (g := gb480) (o := .cells #[.int .i64 a1_0, .int .i64 a1_1, .int .i64 a1_2] 31 (0, 0)) (by exact BK480.out)) (below_size (by repeat ((with_reducible (exact HB.out))))))
      have n2_ := Aside0.mk (blk_below (g := gb480) (o := .cells #[.int .i64 a1_0, .int .i64 a1_1, .int .i64 a1_2] 31 (0, 0)) (by exact BK480.out) hb)
      have n3_ := Aside0.mk (below_step (by repeat ((with_reducible (exact HB.out)))) hb)
      clear HO484
      clear BK480
      clear HB
      have HO484 := n0_
      have HO490 := n1_
      have BK480 := n2_
      have HB := n3_
      clear n0_ n1_ n2_ n3_
      clear hb ho42
      refine hK.out _ _ ⟨(blk_cell BK480.out 0).trans rfl, (blk_cell BK480.out 1).trans rfl, (blk_cell BK480.out 2).trans rfl⟩ (fun hHeld => ?_)
      clear hK K
      refine norm_ (a' := ?_) ?_ ?_
      rotate_left
      ·show Act.put _ (some 30) _ = _
       simp only [Act.put, List.setIfInBounds_toArray, List.set_cons_zero, List.set_cons_succ, i64_w, i32_w]
       rfl
      refine one_ (i := 1) (N := some 28) #[true, true, true, true, false, false] rfl rfl (by kernel_rfl) (by decide) (fun K hK => ?_)
      refine goes_ Tryz.func24 (by kernel_rfl) rfl #[.slice Ao39 t482.length co39] (by rfl) rfl rfl (by (try simp only [List.map_toArray, List.map_cons, List.map_nil]); (rfl)) ?_
      with_reducible refine (hortatorlaw9_Loads.calls _ _ t482 t485 _ ?side1 ?side2 A9.out).mono ?_
      (case side1 => repeat ((exact (Kd.R_reads' HO484.out).2.2)))
      (case side2 => exact (Kd.R_reads' HO484.out).2.1)
      rintro e w43 ⟨v486, rfl, ho0, hb⟩
      refine ⟨_, rfl, ?_⟩
      have n0_ := Aside0.mk (Kd.R_elder' (by exact HO484.out) (Kd.R_base ho0) hb)
      have n1_ := Aside0.mk (Kd.R_elder' (by exact HO490.out) (Kd.R_base ho0) hb)
      have n2_ := Aside0.mk (Kd.R_lower (Kd.R_newB (Kd.R_new' (Kd.R_new' ho0 (Kd.R_lt (by exact HO484.out))) (Kd.R_lt (by exact HO490.out))) (g := gb480) (o := .cells #[.int .i64 a1_0, .int .i64 a1_1, .int .i64 a1_2] 31 (0, 0)) (by exact BK480.out)) (below_size (by repeat ((with_reducible (exact HB.out))))))
      have n3_ := Aside0.mk (blk_below (g := gb480) (o := .cells #[.int .i64 a1_0, .int .i64 a1_1, .int .i64 a1_2] 31 (0, 0)) (by exact BK480.out) hb)
      have n4_ := Aside0.mk (below_step (by repeat ((with_reducible (exact HB.out)))) hb)
      clear HO484
      clear HO490
      clear BK480
      clear HB
      have HO484 := n0_
      have HO490 := n1_
      have HO487 := n2_
      have BK480 := n3_
      have HB := n4_
      clear n0_ n1_ n2_ n3_ n4_
      (try clear hb)
      (try clear hb2)
      (try clear hk)
      (try clear hi)
      (try clear ho0)
      refine hK.out _ _ ⟨(blk_cell BK480.out 0).trans rfl, (blk_cell BK480.out 1).trans rfl, (blk_cell BK480.out 2).trans rfl⟩ (fun hHeld => ?_)
      clear hK K
      refine norm_ (a' := ?_) ?_ ?_
      rotate_left
      ·show Act.put _ (some 28) _ = _
       simp only [Act.put, List.setIfInBounds_toArray, List.set_cons_zero, List.set_cons_succ, i64_w, i32_w]
       rfl
      exact norm_ (by simp only [putAll, Act.put, List.setIfInBounds_toArray, List.set_cons_zero, List.set_cons_succ]) (hCont (v486, v489) _ ⟨hHeld, (by exact Kd.R_mono HO484.out (fun _ hk => ⟨hk.2, ⟨hk.1.2, hk.1.1.2⟩⟩)), (by exact Kd.R_mono HO487.out (fun _ hk => ⟨hk.1.1.2, ⟨hk.1.2, hk.2⟩⟩)), (by exact Kd.R_mono HO490.out (fun _ hk => ⟨hk.1.1.2, ⟨hk.2, hk.1.2⟩⟩)), (by exact BK480.out), (by repeat ((with_reducible (exact HB.out))))⟩)
    rintro ⟨v486, v489⟩ w44 ⟨hS_, h0_, h1_, h2_, h3_, h4_⟩
    have n0_ : Aside0 (Kd.R k31 31 w44 w.heap.size (fun k_ => some k_ ≠ (v486 : Value).ownBlock ∧ some k_ ≠ (v489 : Value).ownBlock ∧ k_ ≠ gb480) (.slice Ao39 t482.length co39) t482) := ⟨h0_⟩
    have n1_ : Aside0 (Kd.R k31 31 w44 w.heap.size (fun k_ => some k_ ≠ (.slice Ao39 t482.length co39 : Value).ownBlock ∧ some k_ ≠ (v489 : Value).ownBlock ∧ k_ ≠ gb480) v486 t485) := ⟨h1_⟩
    have n2_ : Aside0 (Kd.R k31 31 w44 w.heap.size (fun k_ => some k_ ≠ (.slice Ao39 t482.length co39 : Value).ownBlock ∧ some k_ ≠ (v486 : Value).ownBlock ∧ k_ ≠ gb480) v489 y488) := ⟨h2_⟩
    have n3_ : Aside0 (w44.heap[gb480]? = some (.cells #[.int .i64 a1_0, .int .i64 a1_1, .int .i64 a1_2] 31 (0, 0))) := ⟨h3_⟩
    have n4_ : Aside0 (Below w.heap.size w w44) := ⟨h4_⟩
    clear HO484
    clear BK480
    clear HB
    clear h0_ h1_ h2_ h3_ h4_
    have HO484 := n0_
    have HO487 := n1_
    have HO490 := n2_
    have BK480 := n3_
    have HB := n4_
    clear n0_ n1_ n2_ n3_ n4_
    have hHeld : w44.cell? ⟨gb480, 0, none⟩ = some (.int .i64 a1_0) ∧ w44.cell? ⟨gb480, 1, none⟩ = some (.int .i64 a1_1) ∧ w44.cell? ⟨gb480, 2, none⟩ = some (.int .i64 a1_2) := hS_
    obtain ⟨Ao46, co46, eo46⟩ := Kd.R_slice HO490.out
    ((subst eo46))
    refine norm_ (a' := ?_) ?_ ?_
    rotate_left
    ·simp only [putAll, Act.put, List.setIfInBounds_toArray, List.set_cons_zero, List.set_cons_succ]
     rfl
    refine one_ (i := 4) (N := some 31) #[true, true, true, true, true, false] rfl rfl (by kernel_rfl) (by decide) (fun K hK => ?_)
    refine Kd.R_append_rows_step k31 (w0 := w) w.heap.size (by rfl) (.tmp 28) (.tmp 30) 22 31 (.agg #[(.int .i64 0), (.int .i64 0), (.int .i64 0)]) 24 rfl Tryz.underlying22 info31 rfl (by decide) (by omega) v486 t485 y488 _ _ _ (fun k_ => some k_ ≠ (.slice Ao39 t482.length co39 : Value).ownBlock ∧ some k_ ≠ (.slice Ao46 y488.length co46 : Value).ownBlock ∧ k_ ≠ gb480) (fun _ => False) rfl rfl ?aO ?aR (fun _ _ h => h) (fun _ h => h.elim) ?aF ?aB ?aS ?aL ?_
    (case aR => repeat ((exact (Kd.R_reads' HO490.out).2.2)))
    (case aB => exact (by repeat ((with_reducible (exact HB.out)))))
    (case aF => exact (fun k_ hk => ⟨Kd.fresh' (Kd.R_lt (by exact HO484.out)) k_ hk, Kd.fresh' (Kd.R_lt (by exact HO490.out)) k_ hk, Kd.freshB (g := gb480) (o := .cells #[.int .i64 a1_0, .int .i64 a1_1, .int .i64 a1_2] 31 (0, 0)) (by exact BK480.out) k_ hk⟩))
    (case aO => exact (by exact HO487.out))
    (case aS => exact (below_size (by repeat ((with_reducible (exact HB.out))))))
    (case aL => have := LMc10.out; omega)
    intro v492 w45 ho hb hg hat
    rw [← Ny491.out] at ho
    have n0_ := Aside0.mk (blk_grown (g := gb480) (o := .cells #[.int .i64 a1_0, .int .i64 a1_1, .int .i64 a1_2] 31 (0, 0)) (by exact BK480.out) hg (Kd.R_away HO487.out (fun _ hk => hk.2.2)))
    have n1_ := Aside0.mk (Kd.R_after (ok := (fun k_ => some k_ ≠ (.slice Ao46 y488.length co46 : Value).ownBlock ∧ k_ ≠ gb480)) (by exact Kd.R_mono HO484.out (fun _ hk => ⟨⟨hk.2.1, hk.2.2⟩, hk.1⟩)) hg hat)
    have n2_ := Aside0.mk (Kd.R_after (ok := (fun k_ => some k_ ≠ (.slice Ao39 t482.length co39 : Value).ownBlock ∧ k_ ≠ gb480)) (by exact Kd.R_mono HO490.out (fun _ hk => ⟨⟨hk.1, hk.2.2⟩, hk.2.1⟩)) hg hat)
    have n3_ := Aside0.mk (hb)
    have n4_ := Aside0.mk (ho)
    clear BK480
    clear HO484
    clear HO490
    clear HB
    clear HO487
    have BK480 := n0_
    have HO484 := n1_
    have HO490 := n2_
    have HB := n3_
    have HO493 := n4_
    clear n0_ n1_ n2_ n3_ n4_
    clear ho hb hg hat
    refine hK.out _ _ ⟨(blk_cell BK480.out 0).trans rfl, (blk_cell BK480.out 1).trans rfl, (blk_cell BK480.out 2).trans rfl⟩ (fun hHeld => ?_)
    clear hK K
    refine norm_ (a' := ?_) ?_ ?_
    rotate_left
    ·show Act.put _ (some 31) _ = _
     simp only [Act.put, List.setIfInBounds_toArray, List.set_cons_zero, List.set_cons_succ, i64_w, i32_w]
     rfl
    refine pure_ (i := 5) (N := some 12) (v := ?_) (a' := ?_) #[true, true, true, true, true, true] rfl rfl (by kernel_rfl) (fun _ _ _ h => h) (Or.inl ⟨by rfl, ?_⟩) ?_ ?_
    rotate_left
    ·intro w'
     go_simp
     with_reducible rfl
    rotate_left
    ·simp only [Act.put, List.setIfInBounds_toArray, List.set_cons_zero, List.set_cons_succ, i64_w, i32_w]
     rfl
    refine done_ (by kernel_rfl) ?_
    obtain ⟨Ao47, co47, eo47⟩ := Kd.R_slice HO493.out
    subst eo47
    try go_wp2_with (first | ((with_reducible refine gate_callee (f := 34) rfl ?_); refine goesL_ (some 33) rfl rfl Tryz.func34 (by kernel_rfl) rfl #[.slice Ao47 y491.length co47] rfl (by (try simp only [List.map_toArray, List.map_cons, List.map_nil]); (rfl)) ?_; (with_reducible refine (demand_Fits.calls k _ _ y491 false _ ?side1 ?side2 A11.out).mono ?_); (case side1 => repeat ((exact (Kd.R_reads' HO493.out).2.2))); (case side2 => exact (Kd.R_reads' HO493.out).2.1); rintro e w48 ⟨rfl, hb⟩; refine ⟨_, rfl, ?_⟩; have n0_ := Aside0.mk (Kd.R_below (by exact HO484.out) hb); have n1_ := Aside0.mk (Kd.R_below (by exact HO490.out) hb); have n2_ := Aside0.mk (Kd.R_below (by exact HO493.out) hb); have n3_ := Aside0.mk (blk_below (g := gb480) (o := .cells #[.int .i64 a1_0, .int .i64 a1_1, .int .i64 a1_2] 31 (0, 0)) (by exact BK480.out) hb); have n4_ := Aside0.mk (below_step (by repeat ((with_reducible (exact HB.out)))) hb); clear HO484; clear HO490; clear HO493; clear BK480; clear HB; have HO484 := n0_; have HO490 := n1_; have HO493 := n2_; have BK480 := n3_; have HB := n4_; clear n0_ n1_ n2_ n3_ n4_; (try clear hb); (try clear hb2); (try clear hk); (try clear hi)) | ((with_reducible refine gate_callee (f := 36) rfl ?_); refine goesL_ (some 39) rfl rfl Tryz.func36 (by kernel_rfl) rfl #[.slice Ao47 y491.length co47, .int .i64 (wrap64 (1 + (Go.bits .and .i64 a2 31))), .int .i64 (wrap64 (1 + (Go.bits .and .i64 a3 63))), .int .i64 (wrap64 (1 + (Go.bits .and .i64 a4 31)))] rfl (by (try simp only [List.map_toArray, List.map_cons, List.map_nil]); (rfl)) ?_; (with_reducible refine (most_Fit.calls k _ _ y491 (wrap64 (1 + (Go.bits .and .i64 a2 31))) (wrap64 (1 + (Go.bits .and .i64 a3 63))) (wrap64 (1 + (Go.bits .and .i64 a4 31))) t495 _ ?side1 ?side2 A35.out).mono ?_); (case side1 => repeat ((exact (Kd.R_reads' HO493.out).2.2))); (case side2 => exact (Kd.R_reads' HO493.out).2.1); rintro e w49 ⟨rfl, hb⟩; refine ⟨_, rfl, ?_⟩; have n0_ := Aside0.mk (Kd.R_below (by exact HO484.out) hb); have n1_ := Aside0.mk (Kd.R_below (by exact HO490.out) hb); have n2_ := Aside0.mk (Kd.R_below (by exact HO493.out) hb); have n3_ := Aside0.mk (blk_below (g := gb480) (o := .cells #[.int .i64 a1_0, .int .i64 a1_1, .int .i64 a1_2] 31 (0, 0)) (by exact BK480.out) hb); have n4_ := Aside0.mk (below_step (by repeat ((with_reducible (exact HB.out)))) hb); clear HO484; clear HO490; clear HO493; clear BK480; clear HB; have HO484 := n0_; have HO490 := n1_; have HO493 := n2_; have BK480 := n3_; have HB := n4_; clear n0_ n1_ n2_ n3_ n4_; (try clear hb); (try clear hb2); (try clear hk); (try clear hi)))
    go_ret
    exact ⟨by (rfl), by repeat ((with_reducible (exact HB.out)))⟩
  ·rw [if_neg c10] at H
   exact absurd H (by simp)
 ·replace c7 := Bool.eq_false_iff.mpr c7
  subst c7
  have H1 : (none) = some r := by rw [if_neg (show ¬ (false = true) by decide)] at H; exact H
  clear H
  have H := H1
  clear H1
  exact absurd H (by simp)

end Go.Proofs.YtddepomgaeadpaaGreatDoor.PAll
