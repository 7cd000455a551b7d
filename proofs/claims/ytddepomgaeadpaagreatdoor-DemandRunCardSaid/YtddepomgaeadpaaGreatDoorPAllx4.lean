-- Written by a program of this session (wip/pp.py) over the kit's print, with hand-proved contracts beside it.
import Derived.Test.YtddepomgaeadpaaGreatDoorPAllx0
import Derived.Test.YtddepomgaeadpaaGreatDoorPAllx1
import Derived.Test.YtddepomgaeadpaaGreatDoorPAllx2
import Derived.Test.YtddepomgaeadpaaGreatDoorPAllx3
namespace Go.Proofs.YtddepomgaeadpaaGreatDoor.PAll
open Go.Shelf Go.Lib Go.RowKit Go.Proofs.YtddepomgaeadpaaGreatDoorW.PrintWords Go.Proofs.YtddepomgaeadpaaGreatDoorW.PrintLast Go.Proofs.YtddepomgaeadpaaGreatDoorW.PrintMore
attribute [local go_sem] max2_int min2_int max_two min_two max_three min_three max_four min_four   -- for this text's walks alone
set_option linter.unusedVariables false
set_option linter.unusedSimpArgs false

/-! ### hortatorlaw9_begun: function 23 -/
def hortatorlaw9_begun.f (k : Nat)  : Option (Bool) := (some (([(⟨2, 4, 6⟩ : S31), (⟨3, 8, 9⟩ : S31)] : List (S31)) : List (S31))).bind fun y134 => ((busy_Time.f k y134).bind fun bt137 => ((busy_Time.f k ([] : List (S31))).bind fun bt139 => ((busy_Time.f k (([(⟨5, 5, 4⟩ : S31)] : List (S31)))).bind fun bt144 => ((hortatorlaw7_Begun.f).bind fun t146 => (if t146 = true then ((busy_Asked.f k y134 7).bind fun t147 => (if t147 = 7 then (if bt137.2 = true then (if bt137.1 = 5 then (if bt139.1 = 0 then (if bt139.2 = true then (if bt144.2 = true then (some false) else ((demand_Bound.f y134 8).bind fun t148 => (if t148 = 5 then ((demand_Fits.f k y134).bind fun t149 => (if t149 = true then ((most_Fit.f k y134 5 10 9).bind fun t150 => (if t150 = 2 then ((most_Tight.f k ([] : List (S31)) 10 4).bind fun t151 => (some (t151 == 4))) else (some false))) else (some false))) else (some false)))) else (some false)) else (some false)) else (some false)) else (some false)) else (some false))) else (some false))))))
theorem hortatorlaw9_begun.mono : ∀ k, LeO (hortatorlaw9_begun.f k ) (hortatorlaw9_begun.f (k + 1) ) := by
 intro  k
 unfold hortatorlaw9_begun.f
 repeat' first
   | (with_reducible exact busy_Asked.mono _ _ _)
   | (with_reducible exact busy_Time.mono _ _)
   | (with_reducible exact demand_Fits.mono _ _)
   | (with_reducible exact most_Fit.mono _ _ _ _ _)
   | (with_reducible exact most_Tight.mono _ _ _ _)
   | (with_reducible exact LeO.refl _)
   | (with_reducible exact LeO.none _)
   | (with_reducible refine LeO.ite ?_ ?_)
   | (with_reducible refine LeO.bind ?_ (fun _ => ?_))
   | exact busy_Asked.mono _ _ _
   | exact busy_Time.mono _ _
   | exact demand_Fits.mono _ _
   | exact most_Fit.mono _ _ _ _ _
   | exact most_Tight.mono _ _ _ _
   | exact LeO.none _
   | refine LeO.ite ?_ ?_
   | refine LeO.bind ?_ (fun _ => ?_)
set_option maxHeartbeats 8000000 in
set_option maxRecDepth 100000 in
theorem hortatorlaw9_begun.calls (k : Nat)  (r : Bool) (w : World) (h : hortatorlaw9_begun.f k  = some r) :
  Calls Tryz.prog 23 #[] w fun e w' => e = .returned (.bool r) ∧ Below w.heap.size w w' := by
 have hu31 := Tryz.underlying31
 have HB := Aside0.mk (Below.refl w.heap.size w)
 have H : ((some (([(⟨2, 4, 6⟩ : S31), (⟨3, 8, 9⟩ : S31)] : List (S31)) : List (S31))).bind fun y134 => ((busy_Time.f k y134).bind fun bt137 => ((busy_Time.f k ([] : List (S31))).bind fun bt139 => ((busy_Time.f k (([(⟨5, 5, 4⟩ : S31)] : List (S31)))).bind fun bt144 => ((hortatorlaw7_Begun.f).bind fun t146 => (if t146 = true then ((busy_Asked.f k y134 7).bind fun t147 => (if t147 = 7 then (if bt137.2 = true then (if bt137.1 = 5 then (if bt139.1 = 0 then (if bt139.2 = true then (if bt144.2 = true then (some false) else ((demand_Bound.f y134 8).bind fun t148 => (if t148 = 5 then ((demand_Fits.f k y134).bind fun t149 => (if t149 = true then ((most_Fit.f k y134 5 10 9).bind fun t150 => (if t150 = 2 then ((most_Tight.f k ([] : List (S31)) 10 4).bind fun t151 => (some (t151 == 4))) else (some false))) else (some false))) else (some false)))) else (some false)) else (some false)) else (some false)) else (some false)) else (some false))) else (some false))))))) = some r := h
 clear h
 obtain ⟨y134, hy134⟩ : ∃ y_ : List (S31), y_ = (([(⟨2, 4, 6⟩ : S31), (⟨3, 8, 9⟩ : S31)] : List (S31))) := ⟨_, rfl⟩
 replace H : ((busy_Time.f k y134).bind fun bt137 => ((busy_Time.f k ([] : List (S31))).bind fun bt139 => ((busy_Time.f k (([(⟨5, 5, 4⟩ : S31)] : List (S31)))).bind fun bt144 => ((hortatorlaw7_Begun.f).bind fun t146 => (if t146 = true then ((busy_Asked.f k y134 7).bind fun t147 => (if t147 = 7 then (if bt137.2 = true then (if bt137.1 = 5 then (if bt139.1 = 0 then (if bt139.2 = true then (if bt144.2 = true then (some false) else ((demand_Bound.f y134 8).bind fun t148 => (if t148 = 5 then ((demand_Fits.f k y134).bind fun t149 => (if t149 = true then ((most_Fit.f k y134 5 10 9).bind fun t150 => (if t150 = 2 then ((most_Tight.f k ([] : List (S31)) 10 4).bind fun t151 => (some (t151 == 4))) else (some false))) else (some false))) else (some false)))) else (some false)) else (some false)) else (some false)) else (some false)) else (some false))) else (some false)))))) = some r := by (have H2_ := (Option.bind_some _ _).symm.trans H; rw [hy134]; with_reducible exact H2_)
 have Ny134 := Aside0.mk hy134
 clear hy134
 replace H := Option.bind_eq_some_iff.mp H
 obtain ⟨⟨t137, t138⟩, A10, H⟩ := H
 have A1 := Aside0.mk A10
 clear A10
 replace H := Option.bind_eq_some_iff.mp H
 obtain ⟨⟨t139, t140⟩, A20, H⟩ := H
 have A2 := Aside0.mk A20
 clear A20
 obtain ⟨y141, hy141⟩ : ∃ y_ : List (S31), y_ = (([(⟨5, 5, 4⟩ : S31)] : List (S31))) := ⟨_, rfl⟩
 replace H : ((busy_Time.f k y141).bind fun bt144 => ((hortatorlaw7_Begun.f).bind fun t146 => (if t146 = true then ((busy_Asked.f k y134 7).bind fun t147 => (if t147 = 7 then (if t138 = true then (if t137 = 5 then (if t139 = 0 then (if t140 = true then (if bt144.2 = true then (some false) else ((demand_Bound.f y134 8).bind fun t148 => (if t148 = 5 then ((demand_Fits.f k y134).bind fun t149 => (if t149 = true then ((most_Fit.f k y134 5 10 9).bind fun t150 => (if t150 = 2 then ((most_Tight.f k ([] : List (S31)) 10 4).bind fun t151 => (some (t151 == 4))) else (some false))) else (some false))) else (some false)))) else (some false)) else (some false)) else (some false)) else (some false)) else (some false))) else (some false)))) = some r := by (rw [hy141]; with_reducible exact H)
 have Ny141 := Aside0.mk hy141
 clear hy141
 replace H := Option.bind_eq_some_iff.mp H
 obtain ⟨⟨t144, t145⟩, A30, H⟩ := H
 have A3 := Aside0.mk A30
 clear A30
 replace H := Option.bind_eq_some_iff.mp H
 obtain ⟨t146, A40, H⟩ := H
 have A4 := Aside0.mk A40
 clear A40
 by_cases c5 : t146 = true
 ·subst c5
  have H1 : ((busy_Asked.f k y134 7).bind fun t147 => (if t147 = 7 then (if t138 = true then (if t137 = 5 then (if t139 = 0 then (if t140 = true then (if t145 = true then (some false) else ((demand_Bound.f y134 8).bind fun t148 => (if t148 = 5 then ((demand_Fits.f k y134).bind fun t149 => (if t149 = true then ((most_Fit.f k y134 5 10 9).bind fun t150 => (if t150 = 2 then ((most_Tight.f k ([] : List (S31)) 10 4).bind fun t151 => (some (t151 == 4))) else (some false))) else (some false))) else (some false)))) else (some false)) else (some false)) else (some false)) else (some false)) else (some false))) = some r := by rw [if_pos rfl] at H; exact H
  clear H
  have H := H1
  clear H1
  replace H := Option.bind_eq_some_iff.mp H
  obtain ⟨t147, A60, H⟩ := H
  have A6 := Aside0.mk A60
  clear A60
  by_cases c7 : t147 = 7
  ·rw [if_pos c7] at H
   have c7b0 : (t147 == 7) = true := beq_iff_eq.mpr c7
   have c7b1 : (t147 != 7) = false := bne_eq_false_iff_eq.mpr c7
   clear c7
   by_cases c8 : t138 = true
   ·subst c8
    have H1 : (if t137 = 5 then (if t139 = 0 then (if t140 = true then (if t145 = true then (some false) else ((demand_Bound.f y134 8).bind fun t148 => (if t148 = 5 then ((demand_Fits.f k y134).bind fun t149 => (if t149 = true then ((most_Fit.f k y134 5 10 9).bind fun t150 => (if t150 = 2 then ((most_Tight.f k ([] : List (S31)) 10 4).bind fun t151 => (some (t151 == 4))) else (some false))) else (some false))) else (some false)))) else (some false)) else (some false)) else (some false)) = some r := by rw [if_pos rfl] at H; exact H
    clear H
    have H := H1
    clear H1
    by_cases c9 : t137 = 5
    ·rw [if_pos c9] at H
     have c9b0 : (t137 == 5) = true := beq_iff_eq.mpr c9
     have c9b1 : (t137 != 5) = false := bne_eq_false_iff_eq.mpr c9
     clear c9
     by_cases c10 : t139 = 0
     ·rw [if_pos c10] at H
      have c10b0 : (t139 == 0) = true := beq_iff_eq.mpr c10
      have c10b1 : (t139 != 0) = false := bne_eq_false_iff_eq.mpr c10
      clear c10
      by_cases c11 : t140 = true
      ·subst c11
       have H1 : (if t145 = true then (some false) else ((demand_Bound.f y134 8).bind fun t148 => (if t148 = 5 then ((demand_Fits.f k y134).bind fun t149 => (if t149 = true then ((most_Fit.f k y134 5 10 9).bind fun t150 => (if t150 = 2 then ((most_Tight.f k ([] : List (S31)) 10 4).bind fun t151 => (some (t151 == 4))) else (some false))) else (some false))) else (some false)))) = some r := by rw [if_pos rfl] at H; exact H
       clear H
       have H := H1
       clear H1
       by_cases c12 : t145 = true
       ·subst c12
        have H1 : (some false) = some r := by rw [if_pos rfl] at H; exact H
        clear H
        have H := H1
        clear H1
        obtain rfl := Option.some.inj H
        go_enter Tryz.func23, Tryz.ntmps23
        go_wp2_with (first | ((with_reducible refine gate_dst (N := 10) rfl ?_); refine Kd.R_lit k31 _ 31 ?hg (N := 10) ?hd (xs := ([(⟨2, 4, 6⟩ : S31), (⟨3, 8, 9⟩ : S31)] : List (S31))) (inner := [.int .i64 2, .int .i64 4, .int .i64 6, .int .i64 3, .int .i64 8, .int .i64 9]) (ok := fun _ => True) (okp := fun _ => True) ?hr ?hp (fun _ hk => hk) trivial (Below.refl _ _) (Nat.le_refl _) (by simp) ?_; (case hd => rfl); (case hg => rfl); (case hr => (go_simp; done)); (case hp => exact (Reps.c3 (show Kd.M k31 _ _ _ (⟨2, 4, 6⟩ : S31) [.int .i64 2, .int .i64 4, .int .i64 6] from (k31_mkM _ _ _ (⟨2, 4, 6⟩ : S31) )) (Reps.c3 (show Kd.M k31 _ _ _ (⟨3, 8, 9⟩ : S31) [.int .i64 3, .int .i64 8, .int .i64 9] from (k31_mkM _ _ _ (⟨3, 8, 9⟩ : S31) )) (Reps.none _ _)))); intro v135 w13 ho14 hb hg_ hnew_; clear hg_ hnew_; ((rw [← Ny134.out] at ho14)); have HO136 := Aside0.mk (Kd.R_lower ho14 (below_size HB.out)); replace HB := Aside0.mk (below_step HB.out hb); clear hb ho14; obtain ⟨Ao15, co15, eo15⟩ := Kd.R_slice HO136.out; subst eo15) | ((with_reducible refine gate_callee (f := 25) rfl ?_); refine goesL_ (some 13) rfl rfl Tryz.func25 (by kernel_rfl) rfl #[.slice Ao15 y134.length co15] rfl (by (try simp only [List.map_toArray, List.map_cons, List.map_nil]); (rfl)) ?_; (with_reducible refine (busy_Time.calls k _ _ y134 t137 true _ ?side1 ?side2 A1.out).mono ?_); (case side1 => repeat ((exact (Kd.R_reads' HO136.out).2.2))); (case side2 => exact (Kd.R_reads' HO136.out).2.1); rintro e w16 ⟨rfl, hb⟩; refine ⟨_, rfl, ?_⟩; replace HO136 := Aside0.mk (Kd.R_below HO136.out hb); replace HB := Aside0.mk (below_step HB.out hb); (try clear hb); (try clear hb2); (try clear hk); (try clear hi)) | ((with_reducible refine gate_callee (f := 25) rfl ?_); refine goesL_ (some 17) rfl rfl Tryz.func25 (by kernel_rfl) rfl #[.slice none 0 0] rfl (by (try simp only [List.map_toArray, List.map_cons, List.map_nil]); (rfl)) ?_; (refine (busy_Time.calls k _ _ ([] : List (S31)) t139 true _ ?side1 ?side2 A2.out).mono ?_); (case side1 => exact Kd.C_nil _ _); (case side2 => exact Nat.le_refl _); rintro e w17 ⟨rfl, hb⟩; refine ⟨_, rfl, ?_⟩; replace HO136 := Aside0.mk (Kd.R_below HO136.out hb); replace HB := Aside0.mk (below_step HB.out hb); (try clear hb); (try clear hb2); (try clear hk); (try clear hi)) | ((with_reducible refine gate_dst (N := 22) rfl ?_); refine Kd.R_lit k31 _ 31 ?hg (N := 22) ?hd (xs := ([(⟨5, 5, 4⟩ : S31)] : List (S31))) (inner := [.int .i64 5, .int .i64 5, .int .i64 4]) (ok := fun _ => True) (okp := fun _ => True) ?hr ?hp (fun _ hk => hk) trivial (Below.refl _ _) (Nat.le_refl _) (by simp) ?_; (case hd => rfl); (case hg => rfl); (case hr => (go_simp; done)); (case hp => exact (Reps.c3 (show Kd.M k31 _ _ _ (⟨5, 5, 4⟩ : S31) [.int .i64 5, .int .i64 5, .int .i64 4] from (k31_mkM _ _ _ (⟨5, 5, 4⟩ : S31) )) (Reps.none _ _))); intro v142 w18 ho19 hb hg_ hnew_; clear hg_ hnew_; ((rw [← Ny141.out] at ho19)); have HO143 := Aside0.mk (Kd.R_lower (Kd.R_new' ho19 (Kd.R_lt HO136.out)) (below_size HB.out)); replace HO136 := Aside0.mk (Kd.R_elder' HO136.out (Kd.R_base ho19) hb); replace HB := Aside0.mk (below_step HB.out hb); clear hb ho19; obtain ⟨Ao20, co20, eo20⟩ := Kd.R_slice HO143.out; subst eo20) | ((with_reducible refine gate_callee (f := 25) rfl ?_); refine goesL_ (some 23) rfl rfl Tryz.func25 (by kernel_rfl) rfl #[.slice Ao20 y141.length co20] rfl (by (try simp only [List.map_toArray, List.map_cons, List.map_nil]); (rfl)) ?_; (with_reducible refine (busy_Time.calls k _ _ y141 t144 true _ ?side1 ?side2 A3.out).mono ?_); (case side1 => repeat ((exact (Kd.R_reads' HO143.out).2.2))); (case side2 => exact (Kd.R_reads' HO143.out).2.1); rintro e w21 ⟨rfl, hb⟩; refine ⟨_, rfl, ?_⟩; replace HO136 := Aside0.mk (Kd.R_below HO136.out hb); replace HO143 := Aside0.mk (Kd.R_below HO143.out hb); replace HB := Aside0.mk (below_step HB.out hb); (try clear hb); (try clear hb2); (try clear hk); (try clear hi)) | ((with_reducible refine gate_callee (f := 41) rfl ?_); refine goesL_ (some 26) rfl rfl Tryz.func41 (by kernel_rfl) rfl #[] rfl (by (try simp only [List.map_toArray, List.map_cons, List.map_nil]); (done)) ?_; (with_reducible refine (hortatorlaw7_Begun.calls  true _ A4.out).mono ?_); rintro e w22 ⟨rfl, hb⟩; refine ⟨_, rfl, ?_⟩; replace HO136 := Aside0.mk (Kd.R_below HO136.out hb); replace HO143 := Aside0.mk (Kd.R_below HO143.out hb); replace HB := Aside0.mk (below_step HB.out hb); (try clear hb); (try clear hb2); (try clear hk); (try clear hi)) | (go_at_call 27; (with_reducible refine (busy_Asked.calls k _ _ y134 7 t147 _ ?side1 ?side2 A6.out).mono ?_); (case side1 => repeat ((exact (Kd.R_reads' HO136.out).2.2))); (case side2 => exact (Kd.R_reads' HO136.out).2.1); rintro e w23 ⟨rfl, hb⟩; replace HO136 := Aside0.mk (Kd.R_below HO136.out hb); replace HO143 := Aside0.mk (Kd.R_below HO143.out hb); replace HB := Aside0.mk (below_step HB.out hb); (try clear hb); (try clear hb2); (try clear hk); (try clear hi)))
        go_ret
        exact ⟨by (rfl), by repeat ((with_reducible (exact HB.out)))⟩
       ·replace c12 := Bool.eq_false_iff.mpr c12
        subst c12
        have H1 : ((demand_Bound.f y134 8).bind fun t148 => (if t148 = 5 then ((demand_Fits.f k y134).bind fun t149 => (if t149 = true then ((most_Fit.f k y134 5 10 9).bind fun t150 => (if t150 = 2 then ((most_Tight.f k ([] : List (S31)) 10 4).bind fun t151 => (some (t151 == 4))) else (some false))) else (some false))) else (some false))) = some r := by rw [if_neg (show ¬ (false = true) by decide)] at H; exact H
        clear H
        have H := H1
        clear H1
        replace H := Option.bind_eq_some_iff.mp H
        obtain ⟨t148, A240, H⟩ := H
        have A24 := Aside0.mk A240
        clear A240
        by_cases c25 : t148 = 5
        ·rw [if_pos c25] at H
         have c25b0 : (t148 == 5) = true := beq_iff_eq.mpr c25
         have c25b1 : (t148 != 5) = false := bne_eq_false_iff_eq.mpr c25
         clear c25
         replace H := Option.bind_eq_some_iff.mp H
         obtain ⟨t149, A260, H⟩ := H
         have A26 := Aside0.mk A260
         clear A260
         by_cases c27 : t149 = true
         ·subst c27
          have H1 : ((most_Fit.f k y134 5 10 9).bind fun t150 => (if t150 = 2 then ((most_Tight.f k ([] : List (S31)) 10 4).bind fun t151 => (some (t151 == 4))) else (some false))) = some r := by rw [if_pos rfl] at H; exact H
          clear H
          have H := H1
          clear H1
          replace H := Option.bind_eq_some_iff.mp H
          obtain ⟨t150, A280, H⟩ := H
          have A28 := Aside0.mk A280
          clear A280
          by_cases c29 : t150 = 2
          ·rw [if_pos c29] at H
           have c29b0 : (t150 == 2) = true := beq_iff_eq.mpr c29
           have c29b1 : (t150 != 2) = false := bne_eq_false_iff_eq.mpr c29
           clear c29
           replace H := Option.bind_eq_some_iff.mp H
           obtain ⟨t151, A300, H⟩ := H
           have A30 := Aside0.mk A300
           clear A300
           obtain rfl := Option.some.inj H
           go_enter Tryz.func23, Tryz.ntmps23
           go_wp2_with (first | ((with_reducible refine gate_dst (N := 10) rfl ?_); refine Kd.R_lit k31 _ 31 ?hg (N := 10) ?hd (xs := ([(⟨2, 4, 6⟩ : S31), (⟨3, 8, 9⟩ : S31)] : List (S31))) (inner := [.int .i64 2, .int .i64 4, .int .i64 6, .int .i64 3, .int .i64 8, .int .i64 9]) (ok := fun _ => True) (okp := fun _ => True) ?hr ?hp (fun _ hk => hk) trivial (Below.refl _ _) (Nat.le_refl _) (by simp) ?_; (case hd => rfl); (case hg => rfl); (case hr => (go_simp; done)); (case hp => exact (Reps.c3 (show Kd.M k31 _ _ _ (⟨2, 4, 6⟩ : S31) [.int .i64 2, .int .i64 4, .int .i64 6] from (k31_mkM _ _ _ (⟨2, 4, 6⟩ : S31) )) (Reps.c3 (show Kd.M k31 _ _ _ (⟨3, 8, 9⟩ : S31) [.int .i64 3, .int .i64 8, .int .i64 9] from (k31_mkM _ _ _ (⟨3, 8, 9⟩ : S31) )) (Reps.none _ _)))); intro v135 w31 ho32 hb hg_ hnew_; clear hg_ hnew_; ((rw [← Ny134.out] at ho32)); have HO136 := Aside0.mk (Kd.R_lower ho32 (below_size HB.out)); replace HB := Aside0.mk (below_step HB.out hb); clear hb ho32; obtain ⟨Ao33, co33, eo33⟩ := Kd.R_slice HO136.out; subst eo33) | ((with_reducible refine gate_callee (f := 25) rfl ?_); refine goesL_ (some 13) rfl rfl Tryz.func25 (by kernel_rfl) rfl #[.slice Ao33 y134.length co33] rfl (by (try simp only [List.map_toArray, List.map_cons, List.map_nil]); (rfl)) ?_; (with_reducible refine (busy_Time.calls k _ _ y134 t137 true _ ?side1 ?side2 A1.out).mono ?_); (case side1 => repeat ((exact (Kd.R_reads' HO136.out).2.2))); (case side2 => exact (Kd.R_reads' HO136.out).2.1); rintro e w34 ⟨rfl, hb⟩; refine ⟨_, rfl, ?_⟩; replace HO136 := Aside0.mk (Kd.R_below HO136.out hb); replace HB := Aside0.mk (below_step HB.out hb); (try clear hb); (try clear hb2); (try clear hk); (try clear hi)) | ((with_reducible refine gate_callee (f := 25) rfl ?_); refine goesL_ (some 17) rfl rfl Tryz.func25 (by kernel_rfl) rfl #[.slice none 0 0] rfl (by (try simp only [List.map_toArray, List.map_cons, List.map_nil]); (rfl)) ?_; (refine (busy_Time.calls k _ _ ([] : List (S31)) t139 true _ ?side1 ?side2 A2.out).mono ?_); (case side1 => exact Kd.C_nil _ _); (case side2 => exact Nat.le_refl _); rintro e w35 ⟨rfl, hb⟩; refine ⟨_, rfl, ?_⟩; replace HO136 := Aside0.mk (Kd.R_below HO136.out hb); replace HB := Aside0.mk (below_step HB.out hb); (try clear hb); (try clear hb2); (try clear hk); (try clear hi)) | ((with_reducible refine gate_dst (N := 22) rfl ?_); refine Kd.R_lit k31 _ 31 ?hg (N := 22) ?hd (xs := ([(⟨5, 5, 4⟩ : S31)] : List (S31))) (inner := [.int .i64 5, .int .i64 5, .int .i64 4]) (ok := fun _ => True) (okp := fun _ => True) ?hr ?hp (fun _ hk => hk) trivial (Below.refl _ _) (Nat.le_refl _) (by simp) ?_; (case hd => rfl); (case hg => rfl); (case hr => (go_simp; done)); (case hp => exact (Reps.c3 (show Kd.M k31 _ _ _ (⟨5, 5, 4⟩ : S31) [.int .i64 5, .int .i64 5, .int .i64 4] from (k31_mkM _ _ _ (⟨5, 5, 4⟩ : S31) )) (Reps.none _ _))); intro v142 w36 ho37 hb hg_ hnew_; clear hg_ hnew_; ((rw [← Ny141.out] at ho37)); have HO143 := Aside0.mk (Kd.R_lower (Kd.R_new' ho37 (Kd.R_lt HO136.out)) (below_size HB.out)); replace HO136 := Aside0.mk (Kd.R_elder' HO136.out (Kd.R_base ho37) hb); replace HB := Aside0.mk (below_step HB.out hb); clear hb ho37; obtain ⟨Ao38, co38, eo38⟩ := Kd.R_slice HO143.out; subst eo38) | ((with_reducible refine gate_callee (f := 25) rfl ?_); refine goesL_ (some 23) rfl rfl Tryz.func25 (by kernel_rfl) rfl #[.slice Ao38 y141.length co38] rfl (by (try simp only [List.map_toArray, List.map_cons, List.map_nil]); (rfl)) ?_; (with_reducible refine (busy_Time.calls k _ _ y141 t144 false _ ?side1 ?side2 A3.out).mono ?_); (case side1 => repeat ((exact (Kd.R_reads' HO143.out).2.2))); (case side2 => exact (Kd.R_reads' HO143.out).2.1); rintro e w39 ⟨rfl, hb⟩; refine ⟨_, rfl, ?_⟩; replace HO136 := Aside0.mk (Kd.R_below HO136.out hb); replace HO143 := Aside0.mk (Kd.R_below HO143.out hb); replace HB := Aside0.mk (below_step HB.out hb); (try clear hb); (try clear hb2); (try clear hk); (try clear hi)) | ((with_reducible refine gate_callee (f := 41) rfl ?_); refine goesL_ (some 26) rfl rfl Tryz.func41 (by kernel_rfl) rfl #[] rfl (by (try simp only [List.map_toArray, List.map_cons, List.map_nil]); (done)) ?_; (with_reducible refine (hortatorlaw7_Begun.calls  true _ A4.out).mono ?_); rintro e w40 ⟨rfl, hb⟩; refine ⟨_, rfl, ?_⟩; replace HO136 := Aside0.mk (Kd.R_below HO136.out hb); replace HO143 := Aside0.mk (Kd.R_below HO143.out hb); replace HB := Aside0.mk (below_step HB.out hb); (try clear hb); (try clear hb2); (try clear hk); (try clear hi)) | (go_at_call 27; (with_reducible refine (busy_Asked.calls k _ _ y134 7 t147 _ ?side1 ?side2 A6.out).mono ?_); (case side1 => repeat ((exact (Kd.R_reads' HO136.out).2.2))); (case side2 => exact (Kd.R_reads' HO136.out).2.1); rintro e w41 ⟨rfl, hb⟩; replace HO136 := Aside0.mk (Kd.R_below HO136.out hb); replace HO143 := Aside0.mk (Kd.R_below HO143.out hb); replace HB := Aside0.mk (below_step HB.out hb); (try clear hb); (try clear hb2); (try clear hk); (try clear hi)) | (go_at_call 32; (with_reducible refine (demand_Bound.calls _ _ y134 8 t148 _ ?side1 ?side2 A24.out).mono ?_); (case side1 => repeat ((exact (Kd.R_reads' HO136.out).2.2))); (case side2 => exact (Kd.R_reads' HO136.out).2.1); rintro e w42 ⟨rfl, hb⟩; replace HO136 := Aside0.mk (Kd.R_below HO136.out hb); replace HO143 := Aside0.mk (Kd.R_below HO143.out hb); replace HB := Aside0.mk (below_step HB.out hb); (try clear hb); (try clear hb2); (try clear hk); (try clear hi)) | (go_at_call 34; (with_reducible refine (demand_Fits.calls k _ _ y134 true _ ?side1 ?side2 A26.out).mono ?_); (case side1 => repeat ((exact (Kd.R_reads' HO136.out).2.2))); (case side2 => exact (Kd.R_reads' HO136.out).2.1); rintro e w43 ⟨rfl, hb⟩; replace HO136 := Aside0.mk (Kd.R_below HO136.out hb); replace HO143 := Aside0.mk (Kd.R_below HO143.out hb); replace HB := Aside0.mk (below_step HB.out hb); (try clear hb); (try clear hb2); (try clear hk); (try clear hi)) | (go_at_call 36; (with_reducible refine (most_Fit.calls k _ _ y134 5 10 9 t150 _ ?side1 ?side2 A28.out).mono ?_); (case side1 => repeat ((exact (Kd.R_reads' HO136.out).2.2))); (case side2 => exact (Kd.R_reads' HO136.out).2.1); rintro e w44 ⟨rfl, hb⟩; replace HO136 := Aside0.mk (Kd.R_below HO136.out hb); replace HO143 := Aside0.mk (Kd.R_below HO143.out hb); replace HB := Aside0.mk (below_step HB.out hb); (try clear hb); (try clear hb2); (try clear hk); (try clear hi)) | (go_at_call 38; (refine (most_Tight.calls k _ _ ([] : List (S31)) 10 4 t151 _ ?side1 ?side2 A30.out).mono ?_); (case side1 => exact Kd.C_nil _ _); (case side2 => exact Nat.le_refl _); rintro e w45 ⟨rfl, hb⟩; replace HO136 := Aside0.mk (Kd.R_below HO136.out hb); replace HO143 := Aside0.mk (Kd.R_below HO143.out hb); replace HB := Aside0.mk (below_step HB.out hb); (try clear hb); (try clear hb2); (try clear hk); (try clear hi)))
           go_ret
           exact ⟨by (rfl), by repeat ((with_reducible (exact HB.out)))⟩
          ·rw [if_neg c29] at H
           have c29b0 : (t150 == 2) = false := beq_eq_false_iff_ne.mpr c29
           have c29b1 : (t150 != 2) = true := bne_iff_ne.mpr c29
           obtain rfl := Option.some.inj H
           go_enter Tryz.func23, Tryz.ntmps23
           go_wp2_with (first | ((with_reducible refine gate_dst (N := 10) rfl ?_); refine Kd.R_lit k31 _ 31 ?hg (N := 10) ?hd (xs := ([(⟨2, 4, 6⟩ : S31), (⟨3, 8, 9⟩ : S31)] : List (S31))) (inner := [.int .i64 2, .int .i64 4, .int .i64 6, .int .i64 3, .int .i64 8, .int .i64 9]) (ok := fun _ => True) (okp := fun _ => True) ?hr ?hp (fun _ hk => hk) trivial (Below.refl _ _) (Nat.le_refl _) (by simp) ?_; (case hd => rfl); (case hg => rfl); (case hr => (go_simp; done)); (case hp => exact (Reps.c3 (show Kd.M k31 _ _ _ (⟨2, 4, 6⟩ : S31) [.int .i64 2, .int .i64 4, .int .i64 6] from (k31_mkM _ _ _ (⟨2, 4, 6⟩ : S31) )) (Reps.c3 (show Kd.M k31 _ _ _ (⟨3, 8, 9⟩ : S31) [.int .i64 3, .int .i64 8, .int .i64 9] from (k31_mkM _ _ _ (⟨3, 8, 9⟩ : S31) )) (Reps.none _ _)))); intro v135 w46 ho47 hb hg_ hnew_; clear hg_ hnew_; ((rw [← Ny134.out] at ho47)); have HO136 := Aside0.mk (Kd.R_lower ho47 (below_size HB.out)); replace HB := Aside0.mk (below_step HB.out hb); clear hb ho47; obtain ⟨Ao48, co48, eo48⟩ := Kd.R_slice HO136.out; subst eo48) | ((with_reducible refine gate_callee (f := 25) rfl ?_); refine goesL_ (some 13) rfl rfl Tryz.func25 (by kernel_rfl) rfl #[.slice Ao48 y134.length co48] rfl (by (try simp only [List.map_toArray, List.map_cons, List.map_nil]); (rfl)) ?_; (with_reducible refine (busy_Time.calls k _ _ y134 t137 true _ ?side1 ?side2 A1.out).mono ?_); (case side1 => repeat ((exact (Kd.R_reads' HO136.out).2.2))); (case side2 => exact (Kd.R_reads' HO136.out).2.1); rintro e w49 ⟨rfl, hb⟩; refine ⟨_, rfl, ?_⟩; replace HO136 := Aside0.mk (Kd.R_below HO136.out hb); replace HB := Aside0.mk (below_step HB.out hb); (try clear hb); (try clear hb2); (try clear hk); (try clear hi)) | ((with_reducible refine gate_callee (f := 25) rfl ?_); refine goesL_ (some 17) rfl rfl Tryz.func25 (by kernel_rfl) rfl #[.slice none 0 0] rfl (by (try simp only [List.map_toArray, List.map_cons, List.map_nil]); (rfl)) ?_; (refine (busy_Time.calls k _ _ ([] : List (S31)) t139 true _ ?side1 ?side2 A2.out).mono ?_); (case side1 => exact Kd.C_nil _ _); (case side2 => exact Nat.le_refl _); rintro e w50 ⟨rfl, hb⟩; refine ⟨_, rfl, ?_⟩; replace HO136 := Aside0.mk (Kd.R_below HO136.out hb); replace HB := Aside0.mk (below_step HB.out hb); (try clear hb); (try clear hb2); (try clear hk); (try clear hi)) | ((with_reducible refine gate_dst (N := 22) rfl ?_); refine Kd.R_lit k31 _ 31 ?hg (N := 22) ?hd (xs := ([(⟨5, 5, 4⟩ : S31)] : List (S31))) (inner := [.int .i64 5, .int .i64 5, .int .i64 4]) (ok := fun _ => True) (okp := fun _ => True) ?hr ?hp (fun _ hk => hk) trivial (Below.refl _ _) (Nat.le_refl _) (by simp) ?_; (case hd => rfl); (case hg => rfl); (case hr => (go_simp; done)); (case hp => exact (Reps.c3 (show Kd.M k31 _ _ _ (⟨5, 5, 4⟩ : S31) [.int .i64 5, .int .i64 5, .int .i64 4] from (k31_mkM _ _ _ (⟨5, 5, 4⟩ : S31) )) (Reps.none _ _))); intro v142 w51 ho52 hb hg_ hnew_; clear hg_ hnew_; ((rw [← Ny141.out] at ho52)); have HO143 := Aside0.mk (Kd.R_lower (Kd.R_new' ho52 (Kd.R_lt HO136.out)) (below_size HB.out)); replace HO136 := Aside0.mk (Kd.R_elder' HO136.out (Kd.R_base ho52) hb); replace HB := Aside0.mk (below_step HB.out hb); clear hb ho52; obtain ⟨Ao53, co53, eo53⟩ := Kd.R_slice HO143.out; subst eo53) | ((with_reducible refine gate_callee (f := 25) rfl ?_); refine goesL_ (some 23) rfl rfl Tryz.func25 (by kernel_rfl) rfl #[.slice Ao53 y141.length co53] rfl (by (try simp only [List.map_toArray, List.map_cons, List.map_nil]); (rfl)) ?_; (with_reducible refine (busy_Time.calls k _ _ y141 t144 false _ ?side1 ?side2 A3.out).mono ?_); (case side1 => repeat ((exact (Kd.R_reads' HO143.out).2.2))); (case side2 => exact (Kd.R_reads' HO143.out).2.1); rintro e w54 ⟨rfl, hb⟩; refine ⟨_, rfl, ?_⟩; replace HO136 := Aside0.mk (Kd.R_below HO136.out hb); replace HO143 := Aside0.mk (Kd.R_below HO143.out hb); replace HB := Aside0.mk (below_step HB.out hb); (try clear hb); (try clear hb2); (try clear hk); (try clear hi)) | ((with_reducible refine gate_callee (f := 41) rfl ?_); refine goesL_ (some 26) rfl rfl Tryz.func41 (by kernel_rfl) rfl #[] rfl (by (try simp only [List.map_toArray, List.map_cons, List.map_nil]); (done)) ?_; (with_reducible refine (hortatorlaw7_Begun.calls  true _ A4.out).mono ?_); rintro e w55 ⟨rfl, hb⟩; refine ⟨_, rfl, ?_⟩; replace HO136 := Aside0.mk (Kd.R_below HO136.out hb); replace HO143 := Aside0.mk (Kd.R_below HO143.out hb); replace HB := Aside0.mk (below_step HB.out hb); (try clear hb); (try clear hb2); (try clear hk); (try clear hi)) | (go_at_call 27; (with_reducible refine (busy_Asked.calls k _ _ y134 7 t147 _ ?side1 ?side2 A6.out).mono ?_); (case side1 => repeat ((exact (Kd.R_reads' HO136.out).2.2))); (case side2 => exact (Kd.R_reads' HO136.out).2.1); rintro e w56 ⟨rfl, hb⟩; replace HO136 := Aside0.mk (Kd.R_below HO136.out hb); replace HO143 := Aside0.mk (Kd.R_below HO143.out hb); replace HB := Aside0.mk (below_step HB.out hb); (try clear hb); (try clear hb2); (try clear hk); (try clear hi)) | (go_at_call 32; (with_reducible refine (demand_Bound.calls _ _ y134 8 t148 _ ?side1 ?side2 A24.out).mono ?_); (case side1 => repeat ((exact (Kd.R_reads' HO136.out).2.2))); (case side2 => exact (Kd.R_reads' HO136.out).2.1); rintro e w57 ⟨rfl, hb⟩; replace HO136 := Aside0.mk (Kd.R_below HO136.out hb); replace HO143 := Aside0.mk (Kd.R_below HO143.out hb); replace HB := Aside0.mk (below_step HB.out hb); (try clear hb); (try clear hb2); (try clear hk); (try clear hi)) | (go_at_call 34; (with_reducible refine (demand_Fits.calls k _ _ y134 true _ ?side1 ?side2 A26.out).mono ?_); (case side1 => repeat ((exact (Kd.R_reads' HO136.out).2.2))); (case side2 => exact (Kd.R_reads' HO136.out).2.1); rintro e w58 ⟨rfl, hb⟩; replace HO136 := Aside0.mk (Kd.R_below HO136.out hb); replace HO143 := Aside0.mk (Kd.R_below HO143.out hb); replace HB := Aside0.mk (below_step HB.out hb); (try clear hb); (try clear hb2); (try clear hk); (try clear hi)) | (go_at_call 36; (with_reducible refine (most_Fit.calls k _ _ y134 5 10 9 t150 _ ?side1 ?side2 A28.out).mono ?_); (case side1 => repeat ((exact (Kd.R_reads' HO136.out).2.2))); (case side2 => exact (Kd.R_reads' HO136.out).2.1); rintro e w59 ⟨rfl, hb⟩; replace HO136 := Aside0.mk (Kd.R_below HO136.out hb); replace HO143 := Aside0.mk (Kd.R_below HO143.out hb); replace HB := Aside0.mk (below_step HB.out hb); (try clear hb); (try clear hb2); (try clear hk); (try clear hi)))
           go_ret
           exact ⟨by (rfl), by repeat ((with_reducible (exact HB.out)))⟩
         ·replace c27 := Bool.eq_false_iff.mpr c27
          subst c27
          have H1 : (some false) = some r := by rw [if_neg (show ¬ (false = true) by decide)] at H; exact H
          clear H
          have H := H1
          clear H1
          obtain rfl := Option.some.inj H
          go_enter Tryz.func23, Tryz.ntmps23
          go_wp2_with (first | ((with_reducible refine gate_dst (N := 10) rfl ?_); refine Kd.R_lit k31 _ 31 ?hg (N := 10) ?hd (xs := ([(⟨2, 4, 6⟩ : S31), (⟨3, 8, 9⟩ : S31)] : List (S31))) (inner := [.int .i64 2, .int .i64 4, .int .i64 6, .int .i64 3, .int .i64 8, .int .i64 9]) (ok := fun _ => True) (okp := fun _ => True) ?hr ?hp (fun _ hk => hk) trivial (Below.refl _ _) (Nat.le_refl _) (by simp) ?_; (case hd => rfl); (case hg => rfl); (case hr => (go_simp; done)); (case hp => exact (Reps.c3 (show Kd.M k31 _ _ _ (⟨2, 4, 6⟩ : S31) [.int .i64 2, .int .i64 4, .int .i64 6] from (k31_mkM _ _ _ (⟨2, 4, 6⟩ : S31) )) (Reps.c3 (show Kd.M k31 _ _ _ (⟨3, 8, 9⟩ : S31) [.int .i64 3, .int .i64 8, .int .i64 9] from (k31_mkM _ _ _ (⟨3, 8, 9⟩ : S31) )) (Reps.none _ _)))); intro v135 w60 ho61 hb hg_ hnew_; clear hg_ hnew_; ((rw [← Ny134.out] at ho61)); have HO136 := Aside0.mk (Kd.R_lower ho61 (below_size HB.out)); replace HB := Aside0.mk (below_step HB.out hb); clear hb ho61; obtain ⟨Ao62, co62, eo62⟩ := Kd.R_slice HO136.out; subst eo62) | ((with_reducible refine gate_callee (f := 25) rfl ?_); refine goesL_ (some 13) rfl rfl Tryz.func25 (by kernel_rfl) rfl #[.slice Ao62 y134.length co62] rfl (by (try simp only [List.map_toArray, List.map_cons, List.map_nil]); (rfl)) ?_; (with_reducible refine (busy_Time.calls k _ _ y134 t137 true _ ?side1 ?side2 A1.out).mono ?_); (case side1 => repeat ((exact (Kd.R_reads' HO136.out).2.2))); (case side2 => exact (Kd.R_reads' HO136.out).2.1); rintro e w63 ⟨rfl, hb⟩; refine ⟨_, rfl, ?_⟩; replace HO136 := Aside0.mk (Kd.R_below HO136.out hb); replace HB := Aside0.mk (below_step HB.out hb); (try clear hb); (try clear hb2); (try clear hk); (try clear hi)) | ((with_reducible refine gate_callee (f := 25) rfl ?_); refine goesL_ (some 17) rfl rfl Tryz.func25 (by kernel_rfl) rfl #[.slice none 0 0] rfl (by (try simp only [List.map_toArray, List.map_cons, List.map_nil]); (rfl)) ?_; (refine (busy_Time.calls k _ _ ([] : List (S31)) t139 true _ ?side1 ?side2 A2.out).mono ?_); (case side1 => exact Kd.C_nil _ _); (case side2 => exact Nat.le_refl _); rintro e w64 ⟨rfl, hb⟩; refine ⟨_, rfl, ?_⟩; replace HO136 := Aside0.mk (Kd.R_below HO136.out hb); replace HB := Aside0.mk (below_step HB.out hb); (try clear hb); (try clear hb2); (try clear hk); (try clear hi)) | ((with_reducible refine gate_dst (N := 22) rfl ?_); refine Kd.R_lit k31 _ 31 ?hg (N := 22) ?hd (xs := ([(⟨5, 5, 4⟩ : S31)] : List (S31))) (inner := [.int .i64 5, .int .i64 5, .int .i64 4]) (ok := fun _ => True) (okp := fun _ => True) ?hr ?hp (fun _ hk => hk) trivial (Below.refl _ _) (Nat.le_refl _) (by simp) ?_; (case hd => rfl); (case hg => rfl); (case hr => (go_simp; done)); (case hp => exact (Reps.c3 (show Kd.M k31 _ _ _ (⟨5, 5, 4⟩ : S31) [.int .i64 5, .int .i64 5, .int .i64 4] from (k31_mkM _ _ _ (⟨5, 5, 4⟩ : S31) )) (Reps.none _ _))); intro v142 w65 ho66 hb hg_ hnew_; clear hg_ hnew_; ((rw [← Ny141.out] at ho66)); have HO143 := Aside0.mk (Kd.R_lower (Kd.R_new' ho66 (Kd.R_lt HO136.out)) (below_size HB.out)); replace HO136 := Aside0.mk (Kd.R_elder' HO136.out (Kd.R_base ho66) hb); replace HB := Aside0.mk (below_step HB.out hb); clear hb ho66; obtain ⟨Ao67, co67, eo67⟩ := Kd.R_slice HO143.out; subst eo67) | ((with_reducible refine gate_callee (f := 25) rfl ?_); refine goesL_ (some 23) rfl rfl Tryz.func25 (by kernel_rfl) rfl #[.slice Ao67 y141.length co67] rfl (by (try simp only [List.map_toArray, List.map_cons, List.map_nil]); (rfl)) ?_; (with_reducible refine (busy_Time.calls k _ _ y141 t144 false _ ?side1 ?side2 A3.out).mono ?_); (case side1 => repeat ((exact (Kd.R_reads' HO143.out).2.2))); (case side2 => exact (Kd.R_reads' HO143.out).2.1); rintro e w68 ⟨rfl, hb⟩; refine ⟨_, rfl, ?_⟩; replace HO136 := Aside0.mk (Kd.R_below HO136.out hb); replace HO143 := Aside0.mk (Kd.R_below HO143.out hb); replace HB := Aside0.mk (below_step HB.out hb); (try clear hb); (try clear hb2); (try clear hk); (try clear hi)) | ((with_reducible refine gate_callee (f := 41) rfl ?_); refine goesL_ (some 26) rfl rfl Tryz.func41 (by kernel_rfl) rfl #[] rfl (by (try simp only [List.map_toArray, List.map_cons, List.map_nil]); (done)) ?_; (with_reducible refine (hortatorlaw7_Begun.calls  true _ A4.out).mono ?_); rintro e w69 ⟨rfl, hb⟩; refine ⟨_, rfl, ?_⟩; replace HO136 := Aside0.mk (Kd.R_below HO136.out hb); replace HO143 := Aside0.mk (Kd.R_below HO143.out hb); replace HB := Aside0.mk (below_step HB.out hb); (try clear hb); (try clear hb2); (try clear hk); (try clear hi)) | (go_at_call 27; (with_reducible refine (busy_Asked.calls k _ _ y134 7 t147 _ ?side1 ?side2 A6.out).mono ?_); (case side1 => repeat ((exact (Kd.R_reads' HO136.out).2.2))); (case side2 => exact (Kd.R_reads' HO136.out).2.1); rintro e w70 ⟨rfl, hb⟩; replace HO136 := Aside0.mk (Kd.R_below HO136.out hb); replace HO143 := Aside0.mk (Kd.R_below HO143.out hb); replace HB := Aside0.mk (below_step HB.out hb); (try clear hb); (try clear hb2); (try clear hk); (try clear hi)) | (go_at_call 32; (with_reducible refine (demand_Bound.calls _ _ y134 8 t148 _ ?side1 ?side2 A24.out).mono ?_); (case side1 => repeat ((exact (Kd.R_reads' HO136.out).2.2))); (case side2 => exact (Kd.R_reads' HO136.out).2.1); rintro e w71 ⟨rfl, hb⟩; replace HO136 := Aside0.mk (Kd.R_below HO136.out hb); replace HO143 := Aside0.mk (Kd.R_below HO143.out hb); replace HB := Aside0.mk (below_step HB.out hb); (try clear hb); (try clear hb2); (try clear hk); (try clear hi)) | (go_at_call 34; (with_reducible refine (demand_Fits.calls k _ _ y134 false _ ?side1 ?side2 A26.out).mono ?_); (case side1 => repeat ((exact (Kd.R_reads' HO136.out).2.2))); (case side2 => exact (Kd.R_reads' HO136.out).2.1); rintro e w72 ⟨rfl, hb⟩; replace HO136 := Aside0.mk (Kd.R_below HO136.out hb); replace HO143 := Aside0.mk (Kd.R_below HO143.out hb); replace HB := Aside0.mk (below_step HB.out hb); (try clear hb); (try clear hb2); (try clear hk); (try clear hi)))
          go_ret
          exact ⟨by (rfl), by repeat ((with_reducible (exact HB.out)))⟩
        ·rw [if_neg c25] at H
         have c25b0 : (t148 == 5) = false := beq_eq_false_iff_ne.mpr c25
         have c25b1 : (t148 != 5) = true := bne_iff_ne.mpr c25
         obtain rfl := Option.some.inj H
         go_enter Tryz.func23, Tryz.ntmps23
         go_wp2_with (first | ((with_reducible refine gate_dst (N := 10) rfl ?_); refine Kd.R_lit k31 _ 31 ?hg (N := 10) ?hd (xs := ([(⟨2, 4, 6⟩ : S31), (⟨3, 8, 9⟩ : S31)] : List (S31))) (inner := [.int .i64 2, .int .i64 4, .int .i64 6, .int .i64 3, .int .i64 8, .int .i64 9]) (ok := fun _ => True) (okp := fun _ => True) ?hr ?hp (fun _ hk => hk) trivial (Below.refl _ _) (Nat.le_refl _) (by simp) ?_; (case hd => rfl); (case hg => rfl); (case hr => (go_simp; done)); (case hp => exact (Reps.c3 (show Kd.M k31 _ _ _ (⟨2, 4, 6⟩ : S31) [.int .i64 2, .int .i64 4, .int .i64 6] from (k31_mkM _ _ _ (⟨2, 4, 6⟩ : S31) )) (Reps.c3 (show Kd.M k31 _ _ _ (⟨3, 8, 9⟩ : S31) [.int .i64 3, .int .i64 8, .int .i64 9] from (k31_mkM _ _ _ (⟨3, 8, 9⟩ : S31) )) (Reps.none _ _)))); intro v135 w73 ho74 hb hg_ hnew_; clear hg_ hnew_; ((rw [← Ny134.out] at ho74)); have HO136 := Aside0.mk (Kd.R_lower ho74 (below_size HB.out)); replace HB := Aside0.mk (below_step HB.out hb); clear hb ho74; obtain ⟨Ao75, co75, eo75⟩ := Kd.R_slice HO136.out; subst eo75) | ((with_reducible refine gate_callee (f := 25) rfl ?_); refine goesL_ (some 13) rfl rfl Tryz.func25 (by kernel_rfl) rfl #[.slice Ao75 y134.length co75] rfl (by (try simp only [List.map_toArray, List.map_cons, List.map_nil]); (rfl)) ?_; (with_reducible refine (busy_Time.calls k _ _ y134 t137 true _ ?side1 ?side2 A1.out).mono ?_); (case side1 => repeat ((exact (Kd.R_reads' HO136.out).2.2))); (case side2 => exact (Kd.R_reads' HO136.out).2.1); rintro e w76 ⟨rfl, hb⟩; refine ⟨_, rfl, ?_⟩; replace HO136 := Aside0.mk (Kd.R_below HO136.out hb); replace HB := Aside0.mk (below_step HB.out hb); (try clear hb); (try clear hb2); (try clear hk); (try clear hi)) | ((with_reducible refine gate_callee (f := 25) rfl ?_); refine goesL_ (some 17) rfl rfl Tryz.func25 (by kernel_rfl) rfl #[.slice none 0 0] rfl (by (try simp only [List.map_toArray, List.map_cons, List.map_nil]); (rfl)) ?_; (refine (busy_Time.calls k _ _ ([] : List (S31)) t139 true _ ?side1 ?side2 A2.out).mono ?_); (case side1 => exact Kd.C_nil _ _); (case side2 => exact Nat.le_refl _); rintro e w77 ⟨rfl, hb⟩; refine ⟨_, rfl, ?_⟩; replace HO136 := Aside0.mk (Kd.R_below HO136.out hb); replace HB := Aside0.mk (below_step HB.out hb); (try clear hb); (try clear hb2); (try clear hk); (try clear hi)) | ((with_reducible refine gate_dst (N := 22) rfl ?_); refine Kd.R_lit k31 _ 31 ?hg (N := 22) ?hd (xs := ([(⟨5, 5, 4⟩ : S31)] : List (S31))) (inner := [.int .i64 5, .int .i64 5, .int .i64 4]) (ok := fun _ => True) (okp := fun _ => True) ?hr ?hp (fun _ hk => hk) trivial (Below.refl _ _) (Nat.le_refl _) (by simp) ?_; (case hd => rfl); (case hg => rfl); (case hr => (go_simp; done)); (case hp => exact (Reps.c3 (show Kd.M k31 _ _ _ (⟨5, 5, 4⟩ : S31) [.int .i64 5, .int .i64 5, .int .i64 4] from (k31_mkM _ _ _ (⟨5, 5, 4⟩ : S31) )) (Reps.none _ _))); intro v142 w78 ho79 hb hg_ hnew_; clear hg_ hnew_; ((rw [← Ny141.out] at ho79)); have HO143 := Aside0.mk (Kd.R_lower (Kd.R_new' ho79 (Kd.R_lt HO136.out)) (below_size HB.out)); replace HO136 := Aside0.mk (Kd.R_elder' HO136.out (Kd.R_base ho79) hb); replace HB := Aside0.mk (below_step HB.out hb); clear hb ho79; obtain ⟨Ao80, co80, eo80⟩ := Kd.R_slice HO143.out; subst eo80) | ((with_reducible refine gate_callee (f := 25) rfl ?_); refine goesL_ (some 23) rfl rfl Tryz.func25 (by kernel_rfl) rfl #[.slice Ao80 y141.length co80] rfl (by (try simp only [List.map_toArray, List.map_cons, List.map_nil]); (rfl)) ?_; (with_reducible refine (busy_Time.calls k _ _ y141 t144 false _ ?side1 ?side2 A3.out).mono ?_); (case side1 => repeat ((exact (Kd.R_reads' HO143.out).2.2))); (case side2 => exact (Kd.R_reads' HO143.out).2.1); rintro e w81 ⟨rfl, hb⟩; refine ⟨_, rfl, ?_⟩; replace HO136 := Aside0.mk (Kd.R_below HO136.out hb); replace HO143 := Aside0.mk (Kd.R_below HO143.out hb); replace HB := Aside0.mk (below_step HB.out hb); (try clear hb); (try clear hb2); (try clear hk); (try clear hi)) | ((with_reducible refine gate_callee (f := 41) rfl ?_); refine goesL_ (some 26) rfl rfl Tryz.func41 (by kernel_rfl) rfl #[] rfl (by (try simp only [List.map_toArray, List.map_cons, List.map_nil]); (done)) ?_; (with_reducible refine (hortatorlaw7_Begun.calls  true _ A4.out).mono ?_); rintro e w82 ⟨rfl, hb⟩; refine ⟨_, rfl, ?_⟩; replace HO136 := Aside0.mk (Kd.R_below HO136.out hb); replace HO143 := Aside0.mk (Kd.R_below HO143.out hb); replace HB := Aside0.mk (below_step HB.out hb); (try clear hb); (try clear hb2); (try clear hk); (try clear hi)) | (go_at_call 27; (with_reducible refine (busy_Asked.calls k _ _ y134 7 t147 _ ?side1 ?side2 A6.out).mono ?_); (case side1 => repeat ((exact (Kd.R_reads' HO136.out).2.2))); (case side2 => exact (Kd.R_reads' HO136.out).2.1); rintro e w83 ⟨rfl, hb⟩; replace HO136 := Aside0.mk (Kd.R_below HO136.out hb); replace HO143 := Aside0.mk (Kd.R_below HO143.out hb); replace HB := Aside0.mk (below_step HB.out hb); (try clear hb); (try clear hb2); (try clear hk); (try clear hi)) | (go_at_call 32; (with_reducible refine (demand_Bound.calls _ _ y134 8 t148 _ ?side1 ?side2 A24.out).mono ?_); (case side1 => repeat ((exact (Kd.R_reads' HO136.out).2.2))); (case side2 => exact (Kd.R_reads' HO136.out).2.1); rintro e w84 ⟨rfl, hb⟩; replace HO136 := Aside0.mk (Kd.R_below HO136.out hb); replace HO143 := Aside0.mk (Kd.R_below HO143.out hb); replace HB := Aside0.mk (below_step HB.out hb); (try clear hb); (try clear hb2); (try clear hk); (try clear hi)))
         go_ret
         exact ⟨by (rfl), by repeat ((with_reducible (exact HB.out)))⟩
      ·replace c11 := Bool.eq_false_iff.mpr c11
       subst c11
       have H1 : (some false) = some r := by rw [if_neg (show ¬ (false = true) by decide)] at H; exact H
       clear H
       have H := H1
       clear H1
       obtain rfl := Option.some.inj H
       go_enter Tryz.func23, Tryz.ntmps23
       go_wp2_with (first | ((with_reducible refine gate_dst (N := 10) rfl ?_); refine Kd.R_lit k31 _ 31 ?hg (N := 10) ?hd (xs := ([(⟨2, 4, 6⟩ : S31), (⟨3, 8, 9⟩ : S31)] : List (S31))) (inner := [.int .i64 2, .int .i64 4, .int .i64 6, .int .i64 3, .int .i64 8, .int .i64 9]) (ok := fun _ => True) (okp := fun _ => True) ?hr ?hp (fun _ hk => hk) trivial (Below.refl _ _) (Nat.le_refl _) (by simp) ?_; (case hd => rfl); (case hg => rfl); (case hr => (go_simp; done)); (case hp => exact (Reps.c3 (show Kd.M k31 _ _ _ (⟨2, 4, 6⟩ : S31) [.int .i64 2, .int .i64 4, .int .i64 6] from (k31_mkM _ _ _ (⟨2, 4, 6⟩ : S31) )) (Reps.c3 (show Kd.M k31 _ _ _ (⟨3, 8, 9⟩ : S31) [.int .i64 3, .int .i64 8, .int .i64 9] from (k31_mkM _ _ _ (⟨3, 8, 9⟩ : S31) )) (Reps.none _ _)))); intro v135 w85 ho86 hb hg_ hnew_; clear hg_ hnew_; ((rw [← Ny134.out] at ho86)); have HO136 := Aside0.mk (Kd.R_lower ho86 (below_size HB.out)); replace HB := Aside0.mk (below_step HB.out hb); clear hb ho86; obtain ⟨Ao87, co87, eo87⟩ := Kd.R_slice HO136.out; subst eo87) | ((with_reducible refine gate_callee (f := 25) rfl ?_); refine goesL_ (some 13) rfl rfl Tryz.func25 (by kernel_rfl) rfl #[.slice Ao87 y134.length co87] rfl (by (try simp only [List.map_toArray, List.map_cons, List.map_nil]); (rfl)) ?_; (with_reducible refine (busy_Time.calls k _ _ y134 t137 true _ ?side1 ?side2 A1.out).mono ?_); (case side1 => repeat ((exact (Kd.R_reads' HO136.out).2.2))); (case side2 => exact (Kd.R_reads' HO136.out).2.1); rintro e w88 ⟨rfl, hb⟩; refine ⟨_, rfl, ?_⟩; replace HO136 := Aside0.mk (Kd.R_below HO136.out hb); replace HB := Aside0.mk (below_step HB.out hb); (try clear hb); (try clear hb2); (try clear hk); (try clear hi)) | ((with_reducible refine gate_callee (f := 25) rfl ?_); refine goesL_ (some 17) rfl rfl Tryz.func25 (by kernel_rfl) rfl #[.slice none 0 0] rfl (by (try simp only [List.map_toArray, List.map_cons, List.map_nil]); (rfl)) ?_; (refine (busy_Time.calls k _ _ ([] : List (S31)) t139 false _ ?side1 ?side2 A2.out).mono ?_); (case side1 => exact Kd.C_nil _ _); (case side2 => exact Nat.le_refl _); rintro e w89 ⟨rfl, hb⟩; refine ⟨_, rfl, ?_⟩; replace HO136 := Aside0.mk (Kd.R_below HO136.out hb); replace HB := Aside0.mk (below_step HB.out hb); (try clear hb); (try clear hb2); (try clear hk); (try clear hi)) | ((with_reducible refine gate_dst (N := 22) rfl ?_); refine Kd.R_lit k31 _ 31 ?hg (N := 22) ?hd (xs := ([(⟨5, 5, 4⟩ : S31)] : List (S31))) (inner := [.int .i64 5, .int .i64 5, .int .i64 4]) (ok := fun _ => True) (okp := fun _ => True) ?hr ?hp (fun _ hk => hk) trivial (Below.refl _ _) (Nat.le_refl _) (by simp) ?_; (case hd => rfl); (case hg => rfl); (case hr => (go_simp; done)); (case hp => exact (Reps.c3 (show Kd.M k31 _ _ _ (⟨5, 5, 4⟩ : S31) [.int .i64 5, .int .i64 5, .int .i64 4] from (k31_mkM _ _ _ (⟨5, 5, 4⟩ : S31) )) (Reps.none _ _))); intro v142 w90 ho91 hb hg_ hnew_; clear hg_ hnew_; ((rw [← Ny141.out] at ho91)); have HO143 := Aside0.mk (Kd.R_lower (Kd.R_new' ho91 (Kd.R_lt HO136.out)) (below_size HB.out)); replace HO136 := Aside0.mk (Kd.R_elder' HO136.out (Kd.R_base ho91) hb); replace HB := Aside0.mk (below_step HB.out hb); clear hb ho91; obtain ⟨Ao92, co92, eo92⟩ := Kd.R_slice HO143.out; subst eo92) | ((with_reducible refine gate_callee (f := 25) rfl ?_); refine goesL_ (some 23) rfl rfl Tryz.func25 (by kernel_rfl) rfl #[.slice Ao92 y141.length co92] rfl (by (try simp only [List.map_toArray, List.map_cons, List.map_nil]); (rfl)) ?_; (with_reducible refine (busy_Time.calls k _ _ y141 t144 t145 _ ?side1 ?side2 A3.out).mono ?_); (case side1 => repeat ((exact (Kd.R_reads' HO143.out).2.2))); (case side2 => exact (Kd.R_reads' HO143.out).2.1); rintro e w93 ⟨rfl, hb⟩; refine ⟨_, rfl, ?_⟩; replace HO136 := Aside0.mk (Kd.R_below HO136.out hb); replace HO143 := Aside0.mk (Kd.R_below HO143.out hb); replace HB := Aside0.mk (below_step HB.out hb); (try clear hb); (try clear hb2); (try clear hk); (try clear hi)) | ((with_reducible refine gate_callee (f := 41) rfl ?_); refine goesL_ (some 26) rfl rfl Tryz.func41 (by kernel_rfl) rfl #[] rfl (by (try simp only [List.map_toArray, List.map_cons, List.map_nil]); (done)) ?_; (with_reducible refine (hortatorlaw7_Begun.calls  true _ A4.out).mono ?_); rintro e w94 ⟨rfl, hb⟩; refine ⟨_, rfl, ?_⟩; replace HO136 := Aside0.mk (Kd.R_below HO136.out hb); replace HO143 := Aside0.mk (Kd.R_below HO143.out hb); replace HB := Aside0.mk (below_step HB.out hb); (try clear hb); (try clear hb2); (try clear hk); (try clear hi)) | (go_at_call 27; (with_reducible refine (busy_Asked.calls k _ _ y134 7 t147 _ ?side1 ?side2 A6.out).mono ?_); (case side1 => repeat ((exact (Kd.R_reads' HO136.out).2.2))); (case side2 => exact (Kd.R_reads' HO136.out).2.1); rintro e w95 ⟨rfl, hb⟩; replace HO136 := Aside0.mk (Kd.R_below HO136.out hb); replace HO143 := Aside0.mk (Kd.R_below HO143.out hb); replace HB := Aside0.mk (below_step HB.out hb); (try clear hb); (try clear hb2); (try clear hk); (try clear hi)))
       go_ret
       exact ⟨by (rfl), by repeat ((with_reducible (exact HB.out)))⟩
     ·rw [if_neg c10] at H
      have c10b0 : (t139 == 0) = false := beq_eq_false_iff_ne.mpr c10
      have c10b1 : (t139 != 0) = true := bne_iff_ne.mpr c10
      obtain rfl := Option.some.inj H
      go_enter Tryz.func23, Tryz.ntmps23
      go_wp2_with (first | ((with_reducible refine gate_dst (N := 10) rfl ?_); refine Kd.R_lit k31 _ 31 ?hg (N := 10) ?hd (xs := ([(⟨2, 4, 6⟩ : S31), (⟨3, 8, 9⟩ : S31)] : List (S31))) (inner := [.int .i64 2, .int .i64 4, .int .i64 6, .int .i64 3, .int .i64 8, .int .i64 9]) (ok := fun _ => True) (okp := fun _ => True) ?hr ?hp (fun _ hk => hk) trivial (Below.refl _ _) (Nat.le_refl _) (by simp) ?_; (case hd => rfl); (case hg => rfl); (case hr => (go_simp; done)); (case hp => exact (Reps.c3 (show Kd.M k31 _ _ _ (⟨2, 4, 6⟩ : S31) [.int .i64 2, .int .i64 4, .int .i64 6] from (k31_mkM _ _ _ (⟨2, 4, 6⟩ : S31) )) (Reps.c3 (show Kd.M k31 _ _ _ (⟨3, 8, 9⟩ : S31) [.int .i64 3, .int .i64 8, .int .i64 9] from (k31_mkM _ _ _ (⟨3, 8, 9⟩ : S31) )) (Reps.none _ _)))); intro v135 w96 ho97 hb hg_ hnew_; clear hg_ hnew_; ((rw [← Ny134.out] at ho97)); have HO136 := Aside0.mk (Kd.R_lower ho97 (below_size HB.out)); replace HB := Aside0.mk (below_step HB.out hb); clear hb ho97; obtain ⟨Ao98, co98, eo98⟩ := Kd.R_slice HO136.out; subst eo98) | ((with_reducible refine gate_callee (f := 25) rfl ?_); refine goesL_ (some 13) rfl rfl Tryz.func25 (by kernel_rfl) rfl #[.slice Ao98 y134.length co98] rfl (by (try simp only [List.map_toArray, List.map_cons, List.map_nil]); (rfl)) ?_; (with_reducible refine (busy_Time.calls k _ _ y134 t137 true _ ?side1 ?side2 A1.out).mono ?_); (case side1 => repeat ((exact (Kd.R_reads' HO136.out).2.2))); (case side2 => exact (Kd.R_reads' HO136.out).2.1); rintro e w99 ⟨rfl, hb⟩; refine ⟨_, rfl, ?_⟩; replace HO136 := Aside0.mk (Kd.R_below HO136.out hb); replace HB := Aside0.mk (below_step HB.out hb); (try clear hb); (try clear hb2); (try clear hk); (try clear hi)) | ((with_reducible refine gate_callee (f := 25) rfl ?_); refine goesL_ (some 17) rfl rfl Tryz.func25 (by kernel_rfl) rfl #[.slice none 0 0] rfl (by (try simp only [List.map_toArray, List.map_cons, List.map_nil]); (rfl)) ?_; (refine (busy_Time.calls k _ _ ([] : List (S31)) t139 t140 _ ?side1 ?side2 A2.out).mono ?_); (case side1 => exact Kd.C_nil _ _); (case side2 => exact Nat.le_refl _); rintro e w100 ⟨rfl, hb⟩; refine ⟨_, rfl, ?_⟩; replace HO136 := Aside0.mk (Kd.R_below HO136.out hb); replace HB := Aside0.mk (below_step HB.out hb); (try clear hb); (try clear hb2); (try clear hk); (try clear hi)) | ((with_reducible refine gate_dst (N := 22) rfl ?_); refine Kd.R_lit k31 _ 31 ?hg (N := 22) ?hd (xs := ([(⟨5, 5, 4⟩ : S31)] : List (S31))) (inner := [.int .i64 5, .int .i64 5, .int .i64 4]) (ok := fun _ => True) (okp := fun _ => True) ?hr ?hp (fun _ hk => hk) trivial (Below.refl _ _) (Nat.le_refl _) (by simp) ?_; (case hd => rfl); (case hg => rfl); (case hr => (go_simp; done)); (case hp => exact (Reps.c3 (show Kd.M k31 _ _ _ (⟨5, 5, 4⟩ : S31) [.int .i64 5, .int .i64 5, .int .i64 4] from (k31_mkM _ _ _ (⟨5, 5, 4⟩ : S31) )) (Reps.none _ _))); intro v142 w101 ho102 hb hg_ hnew_; clear hg_ hnew_; ((rw [← Ny141.out] at ho102)); have HO143 := Aside0.mk (Kd.R_lower (Kd.R_new' ho102 (Kd.R_lt HO136.out)) (below_size HB.out)); replace HO136 := Aside0.mk (Kd.R_elder' HO136.out (Kd.R_base ho102) hb); replace HB := Aside0.mk (below_step HB.out hb); clear hb ho102; obtain ⟨Ao103, co103, eo103⟩ := Kd.R_slice HO143.out; subst eo103) | ((with_reducible refine gate_callee (f := 25) rfl ?_); refine goesL_ (some 23) rfl rfl Tryz.func25 (by kernel_rfl) rfl #[.slice Ao103 y141.length co103] rfl (by (try simp only [List.map_toArray, List.map_cons, List.map_nil]); (rfl)) ?_; (with_reducible refine (busy_Time.calls k _ _ y141 t144 t145 _ ?side1 ?side2 A3.out).mono ?_); (case side1 => repeat ((exact (Kd.R_reads' HO143.out).2.2))); (case side2 => exact (Kd.R_reads' HO143.out).2.1); rintro e w104 ⟨rfl, hb⟩; refine ⟨_, rfl, ?_⟩; replace HO136 := Aside0.mk (Kd.R_below HO136.out hb); replace HO143 := Aside0.mk (Kd.R_below HO143.out hb); replace HB := Aside0.mk (below_step HB.out hb); (try clear hb); (try clear hb2); (try clear hk); (try clear hi)) | ((with_reducible refine gate_callee (f := 41) rfl ?_); refine goesL_ (some 26) rfl rfl Tryz.func41 (by kernel_rfl) rfl #[] rfl (by (try simp only [List.map_toArray, List.map_cons, List.map_nil]); (done)) ?_; (with_reducible refine (hortatorlaw7_Begun.calls  true _ A4.out).mono ?_); rintro e w105 ⟨rfl, hb⟩; refine ⟨_, rfl, ?_⟩; replace HO136 := Aside0.mk (Kd.R_below HO136.out hb); replace HO143 := Aside0.mk (Kd.R_below HO143.out hb); replace HB := Aside0.mk (below_step HB.out hb); (try clear hb); (try clear hb2); (try clear hk); (try clear hi)) | (go_at_call 27; (with_reducible refine (busy_Asked.calls k _ _ y134 7 t147 _ ?side1 ?side2 A6.out).mono ?_); (case side1 => repeat ((exact (Kd.R_reads' HO136.out).2.2))); (case side2 => exact (Kd.R_reads' HO136.out).2.1); rintro e w106 ⟨rfl, hb⟩; replace HO136 := Aside0.mk (Kd.R_below HO136.out hb); replace HO143 := Aside0.mk (Kd.R_below HO143.out hb); replace HB := Aside0.mk (below_step HB.out hb); (try clear hb); (try clear hb2); (try clear hk); (try clear hi)))
      go_ret
      exact ⟨by (rfl), by repeat ((with_reducible (exact HB.out)))⟩
    ·rw [if_neg c9] at H
     have c9b0 : (t137 == 5) = false := beq_eq_false_iff_ne.mpr c9
     have c9b1 : (t137 != 5) = true := bne_iff_ne.mpr c9
     obtain rfl := Option.some.inj H
     go_enter Tryz.func23, Tryz.ntmps23
     go_wp2_with (first | ((with_reducible refine gate_dst (N := 10) rfl ?_); refine Kd.R_lit k31 _ 31 ?hg (N := 10) ?hd (xs := ([(⟨2, 4, 6⟩ : S31), (⟨3, 8, 9⟩ : S31)] : List (S31))) (inner := [.int .i64 2, .int .i64 4, .int .i64 6, .int .i64 3, .int .i64 8, .int .i64 9]) (ok := fun _ => True) (okp := fun _ => True) ?hr ?hp (fun _ hk => hk) trivial (Below.refl _ _) (Nat.le_refl _) (by simp) ?_; (case hd => rfl); (case hg => rfl); (case hr => (go_simp; done)); (case hp => exact (Reps.c3 (show Kd.M k31 _ _ _ (⟨2, 4, 6⟩ : S31) [.int .i64 2, .int .i64 4, .int .i64 6] from (k31_mkM _ _ _ (⟨2, 4, 6⟩ : S31) )) (Reps.c3 (show Kd.M k31 _ _ _ (⟨3, 8, 9⟩ : S31) [.int .i64 3, .int .i64 8, .int .i64 9] from (k31_mkM _ _ _ (⟨3, 8, 9⟩ : S31) )) (Reps.none _ _)))); intro v135 w107 ho108 hb hg_ hnew_; clear hg_ hnew_; ((rw [← Ny134.out] at ho108)); have HO136 := Aside0.mk (Kd.R_lower ho108 (below_size HB.out)); replace HB := Aside0.mk (below_step HB.out hb); clear hb ho108; obtain ⟨Ao109, co109, eo109⟩ := Kd.R_slice HO136.out; subst eo109) | ((with_reducible refine gate_callee (f := 25) rfl ?_); refine goesL_ (some 13) rfl rfl Tryz.func25 (by kernel_rfl) rfl #[.slice Ao109 y134.length co109] rfl (by (try simp only [List.map_toArray, List.map_cons, List.map_nil]); (rfl)) ?_; (with_reducible refine (busy_Time.calls k _ _ y134 t137 true _ ?side1 ?side2 A1.out).mono ?_); (case side1 => repeat ((exact (Kd.R_reads' HO136.out).2.2))); (case side2 => exact (Kd.R_reads' HO136.out).2.1); rintro e w110 ⟨rfl, hb⟩; refine ⟨_, rfl, ?_⟩; replace HO136 := Aside0.mk (Kd.R_below HO136.out hb); replace HB := Aside0.mk (below_step HB.out hb); (try clear hb); (try clear hb2); (try clear hk); (try clear hi)) | ((with_reducible refine gate_callee (f := 25) rfl ?_); refine goesL_ (some 17) rfl rfl Tryz.func25 (by kernel_rfl) rfl #[.slice none 0 0] rfl (by (try simp only [List.map_toArray, List.map_cons, List.map_nil]); (rfl)) ?_; (refine (busy_Time.calls k _ _ ([] : List (S31)) t139 t140 _ ?side1 ?side2 A2.out).mono ?_); (case side1 => exact Kd.C_nil _ _); (case side2 => exact Nat.le_refl _); rintro e w111 ⟨rfl, hb⟩; refine ⟨_, rfl, ?_⟩; replace HO136 := Aside0.mk (Kd.R_below HO136.out hb); replace HB := Aside0.mk (below_step HB.out hb); (try clear hb); (try clear hb2); (try clear hk); (try clear hi)) | ((with_reducible refine gate_dst (N := 22) rfl ?_); refine Kd.R_lit k31 _ 31 ?hg (N := 22) ?hd (xs := ([(⟨5, 5, 4⟩ : S31)] : List (S31))) (inner := [.int .i64 5, .int .i64 5, .int .i64 4]) (ok := fun _ => True) (okp := fun _ => True) ?hr ?hp (fun _ hk => hk) trivial (Below.refl _ _) (Nat.le_refl _) (by simp) ?_; (case hd => rfl); (case hg => rfl); (case hr => (go_simp; done)); (case hp => exact (Reps.c3 (show Kd.M k31 _ _ _ (⟨5, 5, 4⟩ : S31) [.int .i64 5, .int .i64 5, .int .i64 4] from (k31_mkM _ _ _ (⟨5, 5, 4⟩ : S31) )) (Reps.none _ _))); intro v142 w112 ho113 hb hg_ hnew_; clear hg_ hnew_; ((rw [← Ny141.out] at ho113)); have HO143 := Aside0.mk (Kd.R_lower (Kd.R_new' ho113 (Kd.R_lt HO136.out)) (below_size HB.out)); replace HO136 := Aside0.mk (Kd.R_elder' HO136.out (Kd.R_base ho113) hb); replace HB := Aside0.mk (below_step HB.out hb); clear hb ho113; obtain ⟨Ao114, co114, eo114⟩ := Kd.R_slice HO143.out; subst eo114) | ((with_reducible refine gate_callee (f := 25) rfl ?_); refine goesL_ (some 23) rfl rfl Tryz.func25 (by kernel_rfl) rfl #[.slice Ao114 y141.length co114] rfl (by (try simp only [List.map_toArray, List.map_cons, List.map_nil]); (rfl)) ?_; (with_reducible refine (busy_Time.calls k _ _ y141 t144 t145 _ ?side1 ?side2 A3.out).mono ?_); (case side1 => repeat ((exact (Kd.R_reads' HO143.out).2.2))); (case side2 => exact (Kd.R_reads' HO143.out).2.1); rintro e w115 ⟨rfl, hb⟩; refine ⟨_, rfl, ?_⟩; replace HO136 := Aside0.mk (Kd.R_below HO136.out hb); replace HO143 := Aside0.mk (Kd.R_below HO143.out hb); replace HB := Aside0.mk (below_step HB.out hb); (try clear hb); (try clear hb2); (try clear hk); (try clear hi)) | ((with_reducible refine gate_callee (f := 41) rfl ?_); refine goesL_ (some 26) rfl rfl Tryz.func41 (by kernel_rfl) rfl #[] rfl (by (try simp only [List.map_toArray, List.map_cons, List.map_nil]); (done)) ?_; (with_reducible refine (hortatorlaw7_Begun.calls  true _ A4.out).mono ?_); rintro e w116 ⟨rfl, hb⟩; refine ⟨_, rfl, ?_⟩; replace HO136 := Aside0.mk (Kd.R_below HO136.out hb); replace HO143 := Aside0.mk (Kd.R_below HO143.out hb); replace HB := Aside0.mk (below_step HB.out hb); (try clear hb); (try clear hb2); (try clear hk); (try clear hi)) | (go_at_call 27; (with_reducible refine (busy_Asked.calls k _ _ y134 7 t147 _ ?side1 ?side2 A6.out).mono ?_); (case side1 => repeat ((exact (Kd.R_reads' HO136.out).2.2))); (case side2 => exact (Kd.R_reads' HO136.out).2.1); rintro e w117 ⟨rfl, hb⟩; replace HO136 := Aside0.mk (Kd.R_below HO136.out hb); replace HO143 := Aside0.mk (Kd.R_below HO143.out hb); replace HB := Aside0.mk (below_step HB.out hb); (try clear hb); (try clear hb2); (try clear hk); (try clear hi)))
     go_ret
     exact ⟨by (rfl), by repeat ((with_reducible (exact HB.out)))⟩
   ·replace c8 := Bool.eq_false_iff.mpr c8
    subst c8
    have H1 : (some false) = some r := by rw [if_neg (show ¬ (false = true) by decide)] at H; exact H
    clear H
    have H := H1
    clear H1
    obtain rfl := Option.some.inj H
    go_enter Tryz.func23, Tryz.ntmps23
    go_wp2_with (first | ((with_reducible refine gate_dst (N := 10) rfl ?_); refine Kd.R_lit k31 _ 31 ?hg (N := 10) ?hd (xs := ([(⟨2, 4, 6⟩ : S31), (⟨3, 8, 9⟩ : S31)] : List (S31))) (inner := [.int .i64 2, .int .i64 4, .int .i64 6, .int .i64 3, .int .i64 8, .int .i64 9]) (ok := fun _ => True) (okp := fun _ => True) ?hr ?hp (fun _ hk => hk) trivial (Below.refl _ _) (Nat.le_refl _) (by simp) ?_; (case hd => rfl); (case hg => rfl); (case hr => (go_simp; done)); (case hp => exact (Reps.c3 (show Kd.M k31 _ _ _ (⟨2, 4, 6⟩ : S31) [.int .i64 2, .int .i64 4, .int .i64 6] from (k31_mkM _ _ _ (⟨2, 4, 6⟩ : S31) )) (Reps.c3 (show Kd.M k31 _ _ _ (⟨3, 8, 9⟩ : S31) [.int .i64 3, .int .i64 8, .int .i64 9] from (k31_mkM _ _ _ (⟨3, 8, 9⟩ : S31) )) (Reps.none _ _)))); intro v135 w118 ho119 hb hg_ hnew_; clear hg_ hnew_; ((rw [← Ny134.out] at ho119)); have HO136 := Aside0.mk (Kd.R_lower ho119 (below_size HB.out)); replace HB := Aside0.mk (below_step HB.out hb); clear hb ho119; obtain ⟨Ao120, co120, eo120⟩ := Kd.R_slice HO136.out; subst eo120) | ((with_reducible refine gate_callee (f := 25) rfl ?_); refine goesL_ (some 13) rfl rfl Tryz.func25 (by kernel_rfl) rfl #[.slice Ao120 y134.length co120] rfl (by (try simp only [List.map_toArray, List.map_cons, List.map_nil]); (rfl)) ?_; (with_reducible refine (busy_Time.calls k _ _ y134 t137 false _ ?side1 ?side2 A1.out).mono ?_); (case side1 => repeat ((exact (Kd.R_reads' HO136.out).2.2))); (case side2 => exact (Kd.R_reads' HO136.out).2.1); rintro e w121 ⟨rfl, hb⟩; refine ⟨_, rfl, ?_⟩; replace HO136 := Aside0.mk (Kd.R_below HO136.out hb); replace HB := Aside0.mk (below_step HB.out hb); (try clear hb); (try clear hb2); (try clear hk); (try clear hi)) | ((with_reducible refine gate_callee (f := 25) rfl ?_); refine goesL_ (some 17) rfl rfl Tryz.func25 (by kernel_rfl) rfl #[.slice none 0 0] rfl (by (try simp only [List.map_toArray, List.map_cons, List.map_nil]); (rfl)) ?_; (refine (busy_Time.calls k _ _ ([] : List (S31)) t139 t140 _ ?side1 ?side2 A2.out).mono ?_); (case side1 => exact Kd.C_nil _ _); (case side2 => exact Nat.le_refl _); rintro e w122 ⟨rfl, hb⟩; refine ⟨_, rfl, ?_⟩; replace HO136 := Aside0.mk (Kd.R_below HO136.out hb); replace HB := Aside0.mk (below_step HB.out hb); (try clear hb); (try clear hb2); (try clear hk); (try clear hi)) | ((with_reducible refine gate_dst (N := 22) rfl ?_); refine Kd.R_lit k31 _ 31 ?hg (N := 22) ?hd (xs := ([(⟨5, 5, 4⟩ : S31)] : List (S31))) (inner := [.int .i64 5, .int .i64 5, .int .i64 4]) (ok := fun _ => True) (okp := fun _ => True) ?hr ?hp (fun _ hk => hk) trivial (Below.refl _ _) (Nat.le_refl _) (by simp) ?_; (case hd => rfl); (case hg => rfl); (case hr => (go_simp; done)); (case hp => exact (Reps.c3 (show Kd.M k31 _ _ _ (⟨5, 5, 4⟩ : S31) [.int .i64 5, .int .i64 5, .int .i64 4] from (k31_mkM _ _ _ (⟨5, 5, 4⟩ : S31) )) (Reps.none _ _))); intro v142 w123 ho124 hb hg_ hnew_; clear hg_ hnew_; ((rw [← Ny141.out] at ho124)); have HO143 := Aside0.mk (Kd.R_lower (Kd.R_new' ho124 (Kd.R_lt HO136.out)) (below_size HB.out)); replace HO136 := Aside0.mk (Kd.R_elder' HO136.out (Kd.R_base ho124) hb); replace HB := Aside0.mk (below_step HB.out hb); clear hb ho124; obtain ⟨Ao125, co125, eo125⟩ := Kd.R_slice HO143.out; subst eo125) | ((with_reducible refine gate_callee (f := 25) rfl ?_); refine goesL_ (some 23) rfl rfl Tryz.func25 (by kernel_rfl) rfl #[.slice Ao125 y141.length co125] rfl (by (try simp only [List.map_toArray, List.map_cons, List.map_nil]); (rfl)) ?_; (with_reducible refine (busy_Time.calls k _ _ y141 t144 t145 _ ?side1 ?side2 A3.out).mono ?_); (case side1 => repeat ((exact (Kd.R_reads' HO143.out).2.2))); (case side2 => exact (Kd.R_reads' HO143.out).2.1); rintro e w126 ⟨rfl, hb⟩; refine ⟨_, rfl, ?_⟩; replace HO136 := Aside0.mk (Kd.R_below HO136.out hb); replace HO143 := Aside0.mk (Kd.R_below HO143.out hb); replace HB := Aside0.mk (below_step HB.out hb); (try clear hb); (try clear hb2); (try clear hk); (try clear hi)) | ((with_reducible refine gate_callee (f := 41) rfl ?_); refine goesL_ (some 26) rfl rfl Tryz.func41 (by kernel_rfl) rfl #[] rfl (by (try simp only [List.map_toArray, List.map_cons, List.map_nil]); (done)) ?_; (with_reducible refine (hortatorlaw7_Begun.calls  true _ A4.out).mono ?_); rintro e w127 ⟨rfl, hb⟩; refine ⟨_, rfl, ?_⟩; replace HO136 := Aside0.mk (Kd.R_below HO136.out hb); replace HO143 := Aside0.mk (Kd.R_below HO143.out hb); replace HB := Aside0.mk (below_step HB.out hb); (try clear hb); (try clear hb2); (try clear hk); (try clear hi)) | (go_at_call 27; (with_reducible refine (busy_Asked.calls k _ _ y134 7 t147 _ ?side1 ?side2 A6.out).mono ?_); (case side1 => repeat ((exact (Kd.R_reads' HO136.out).2.2))); (case side2 => exact (Kd.R_reads' HO136.out).2.1); rintro e w128 ⟨rfl, hb⟩; replace HO136 := Aside0.mk (Kd.R_below HO136.out hb); replace HO143 := Aside0.mk (Kd.R_below HO143.out hb); replace HB := Aside0.mk (below_step HB.out hb); (try clear hb); (try clear hb2); (try clear hk); (try clear hi)))
    go_ret
    exact ⟨by (rfl), by repeat ((with_reducible (exact HB.out)))⟩
  ·rw [if_neg c7] at H
   have c7b0 : (t147 == 7) = false := beq_eq_false_iff_ne.mpr c7
   have c7b1 : (t147 != 7) = true := bne_iff_ne.mpr c7
   obtain rfl := Option.some.inj H
   go_enter Tryz.func23, Tryz.ntmps23
   go_wp2_with (first | ((with_reducible refine gate_dst (N := 10) rfl ?_); refine Kd.R_lit k31 _ 31 ?hg (N := 10) ?hd (xs := ([(⟨2, 4, 6⟩ : S31), (⟨3, 8, 9⟩ : S31)] : List (S31))) (inner := [.int .i64 2, .int .i64 4, .int .i64 6, .int .i64 3, .int .i64 8, .int .i64 9]) (ok := fun _ => True) (okp := fun _ => True) ?hr ?hp (fun _ hk => hk) trivial (Below.refl _ _) (Nat.le_refl _) (by simp) ?_; (case hd => rfl); (case hg => rfl); (case hr => (go_simp; done)); (case hp => exact (Reps.c3 (show Kd.M k31 _ _ _ (⟨2, 4, 6⟩ : S31) [.int .i64 2, .int .i64 4, .int .i64 6] from (k31_mkM _ _ _ (⟨2, 4, 6⟩ : S31) )) (Reps.c3 (show Kd.M k31 _ _ _ (⟨3, 8, 9⟩ : S31) [.int .i64 3, .int .i64 8, .int .i64 9] from (k31_mkM _ _ _ (⟨3, 8, 9⟩ : S31) )) (Reps.none _ _)))); intro v135 w129 ho130 hb hg_ hnew_; clear hg_ hnew_; ((rw [← Ny134.out] at ho130)); have HO136 := Aside0.mk (Kd.R_lower ho130 (below_size HB.out)); replace HB := Aside0.mk (below_step HB.out hb); clear hb ho130; obtain ⟨Ao131, co131, eo131⟩ := Kd.R_slice HO136.out; subst eo131) | ((with_reducible refine gate_callee (f := 25) rfl ?_); refine goesL_ (some 13) rfl rfl Tryz.func25 (by kernel_rfl) rfl #[.slice Ao131 y134.length co131] rfl (by (try simp only [List.map_toArray, List.map_cons, List.map_nil]); (rfl)) ?_; (with_reducible refine (busy_Time.calls k _ _ y134 t137 t138 _ ?side1 ?side2 A1.out).mono ?_); (case side1 => repeat ((exact (Kd.R_reads' HO136.out).2.2))); (case side2 => exact (Kd.R_reads' HO136.out).2.1); rintro e w132 ⟨rfl, hb⟩; refine ⟨_, rfl, ?_⟩; replace HO136 := Aside0.mk (Kd.R_below HO136.out hb); replace HB := Aside0.mk (below_step HB.out hb); (try clear hb); (try clear hb2); (try clear hk); (try clear hi)) | ((with_reducible refine gate_callee (f := 25) rfl ?_); refine goesL_ (some 17) rfl rfl Tryz.func25 (by kernel_rfl) rfl #[.slice none 0 0] rfl (by (try simp only [List.map_toArray, List.map_cons, List.map_nil]); (rfl)) ?_; (refine (busy_Time.calls k _ _ ([] : List (S31)) t139 t140 _ ?side1 ?side2 A2.out).mono ?_); (case side1 => exact Kd.C_nil _ _); (case side2 => exact Nat.le_refl _); rintro e w133 ⟨rfl, hb⟩; refine ⟨_, rfl, ?_⟩; replace HO136 := Aside0.mk (Kd.R_below HO136.out hb); replace HB := Aside0.mk (below_step HB.out hb); (try clear hb); (try clear hb2); (try clear hk); (try clear hi)) | ((with_reducible refine gate_dst (N := 22) rfl ?_); refine Kd.R_lit k31 _ 31 ?hg (N := 22) ?hd (xs := ([(⟨5, 5, 4⟩ : S31)] : List (S31))) (inner := [.int .i64 5, .int .i64 5, .int .i64 4]) (ok := fun _ => True) (okp := fun _ => True) ?hr ?hp (fun _ hk => hk) trivial (Below.refl _ _) (Nat.le_refl _) (by simp) ?_; (case hd => rfl); (case hg => rfl); (case hr => (go_simp; done)); (case hp => exact (Reps.c3 (show Kd.M k31 _ _ _ (⟨5, 5, 4⟩ : S31) [.int .i64 5, .int .i64 5, .int .i64 4] from (k31_mkM _ _ _ (⟨5, 5, 4⟩ : S31) )) (Reps.none _ _))); intro v142 w134 ho135 hb hg_ hnew_; clear hg_ hnew_; ((rw [← Ny141.out] at ho135)); have HO143 := Aside0.mk (Kd.R_lower (Kd.R_new' ho135 (Kd.R_lt HO136.out)) (below_size HB.out)); replace HO136 := Aside0.mk (Kd.R_elder' HO136.out (Kd.R_base ho135) hb); replace HB := Aside0.mk (below_step HB.out hb); clear hb ho135; obtain ⟨Ao136, co136, eo136⟩ := Kd.R_slice HO143.out; subst eo136) | ((with_reducible refine gate_callee (f := 25) rfl ?_); refine goesL_ (some 23) rfl rfl Tryz.func25 (by kernel_rfl) rfl #[.slice Ao136 y141.length co136] rfl (by (try simp only [List.map_toArray, List.map_cons, List.map_nil]); (rfl)) ?_; (with_reducible refine (busy_Time.calls k _ _ y141 t144 t145 _ ?side1 ?side2 A3.out).mono ?_); (case side1 => repeat ((exact (Kd.R_reads' HO143.out).2.2))); (case side2 => exact (Kd.R_reads' HO143.out).2.1); rintro e w137 ⟨rfl, hb⟩; refine ⟨_, rfl, ?_⟩; replace HO136 := Aside0.mk (Kd.R_below HO136.out hb); replace HO143 := Aside0.mk (Kd.R_below HO143.out hb); replace HB := Aside0.mk (below_step HB.out hb); (try clear hb); (try clear hb2); (try clear hk); (try clear hi)) | ((with_reducible refine gate_callee (f := 41) rfl ?_); refine goesL_ (some 26) rfl rfl Tryz.func41 (by kernel_rfl) rfl #[] rfl (by (try simp only [List.map_toArray, List.map_cons, List.map_nil]); (done)) ?_; (with_reducible refine (hortatorlaw7_Begun.calls  true _ A4.out).mono ?_); rintro e w138 ⟨rfl, hb⟩; refine ⟨_, rfl, ?_⟩; replace HO136 := Aside0.mk (Kd.R_below HO136.out hb); replace HO143 := Aside0.mk (Kd.R_below HO143.out hb); replace HB := Aside0.mk (below_step HB.out hb); (try clear hb); (try clear hb2); (try clear hk); (try clear hi)) | (go_at_call 27; (with_reducible refine (busy_Asked.calls k _ _ y134 7 t147 _ ?side1 ?side2 A6.out).mono ?_); (case side1 => repeat ((exact (Kd.R_reads' HO136.out).2.2))); (case side2 => exact (Kd.R_reads' HO136.out).2.1); rintro e w139 ⟨rfl, hb⟩; replace HO136 := Aside0.mk (Kd.R_below HO136.out hb); replace HO143 := Aside0.mk (Kd.R_below HO143.out hb); replace HB := Aside0.mk (below_step HB.out hb); (try clear hb); (try clear hb2); (try clear hk); (try clear hi)))
   go_ret
   exact ⟨by (rfl), by repeat ((with_reducible (exact HB.out)))⟩
 ·replace c5 := Bool.eq_false_iff.mpr c5
  subst c5
  have H1 : (some false) = some r := by rw [if_neg (show ¬ (false = true) by decide)] at H; exact H
  clear H
  have H := H1
  clear H1
  obtain rfl := Option.some.inj H
  go_enter Tryz.func23, Tryz.ntmps23
  go_wp2_with (first | ((with_reducible refine gate_dst (N := 10) rfl ?_); refine Kd.R_lit k31 _ 31 ?hg (N := 10) ?hd (xs := ([(⟨2, 4, 6⟩ : S31), (⟨3, 8, 9⟩ : S31)] : List (S31))) (inner := [.int .i64 2, .int .i64 4, .int .i64 6, .int .i64 3, .int .i64 8, .int .i64 9]) (ok := fun _ => True) (okp := fun _ => True) ?hr ?hp (fun _ hk => hk) trivial (Below.refl _ _) (Nat.le_refl _) (by simp) ?_; (case hd => rfl); (case hg => rfl); (case hr => (go_simp; done)); (case hp => exact (Reps.c3 (show Kd.M k31 _ _ _ (⟨2, 4, 6⟩ : S31) [.int .i64 2, .int .i64 4, .int .i64 6] from (k31_mkM _ _ _ (⟨2, 4, 6⟩ : S31) )) (Reps.c3 (show Kd.M k31 _ _ _ (⟨3, 8, 9⟩ : S31) [.int .i64 3, .int .i64 8, .int .i64 9] from (k31_mkM _ _ _ (⟨3, 8, 9⟩ : S31) )) (Reps.none _ _)))); intro v135 w140 ho141 hb hg_ hnew_; clear hg_ hnew_; ((rw [← Ny134.out] at ho141)); have HO136 := Aside0.mk (Kd.R_lower ho141 (below_size HB.out)); replace HB := Aside0.mk (below_step HB.out hb); clear hb ho141; obtain ⟨Ao142, co142, eo142⟩ := Kd.R_slice HO136.out; subst eo142) | ((with_reducible refine gate_callee (f := 25) rfl ?_); refine goesL_ (some 13) rfl rfl Tryz.func25 (by kernel_rfl) rfl #[.slice Ao142 y134.length co142] rfl (by (try simp only [List.map_toArray, List.map_cons, List.map_nil]); (rfl)) ?_; (with_reducible refine (busy_Time.calls k _ _ y134 t137 t138 _ ?side1 ?side2 A1.out).mono ?_); (case side1 => repeat ((exact (Kd.R_reads' HO136.out).2.2))); (case side2 => exact (Kd.R_reads' HO136.out).2.1); rintro e w143 ⟨rfl, hb⟩; refine ⟨_, rfl, ?_⟩; replace HO136 := Aside0.mk (Kd.R_below HO136.out hb); replace HB := Aside0.mk (below_step HB.out hb); (try clear hb); (try clear hb2); (try clear hk); (try clear hi)) | ((with_reducible refine gate_callee (f := 25) rfl ?_); refine goesL_ (some 17) rfl rfl Tryz.func25 (by kernel_rfl) rfl #[.slice none 0 0] rfl (by (try simp only [List.map_toArray, List.map_cons, List.map_nil]); (rfl)) ?_; (refine (busy_Time.calls k _ _ ([] : List (S31)) t139 t140 _ ?side1 ?side2 A2.out).mono ?_); (case side1 => exact Kd.C_nil _ _); (case side2 => exact Nat.le_refl _); rintro e w144 ⟨rfl, hb⟩; refine ⟨_, rfl, ?_⟩; replace HO136 := Aside0.mk (Kd.R_below HO136.out hb); replace HB := Aside0.mk (below_step HB.out hb); (try clear hb); (try clear hb2); (try clear hk); (try clear hi)) | ((with_reducible refine gate_dst (N := 22) rfl ?_); refine Kd.R_lit k31 _ 31 ?hg (N := 22) ?hd (xs := ([(⟨5, 5, 4⟩ : S31)] : List (S31))) (inner := [.int .i64 5, .int .i64 5, .int .i64 4]) (ok := fun _ => True) (okp := fun _ => True) ?hr ?hp (fun _ hk => hk) trivial (Below.refl _ _) (Nat.le_refl _) (by simp) ?_; (case hd => rfl); (case hg => rfl); (case hr => (go_simp; done)); (case hp => exact (Reps.c3 (show Kd.M k31 _ _ _ (⟨5, 5, 4⟩ : S31) [.int .i64 5, .int .i64 5, .int .i64 4] from (k31_mkM _ _ _ (⟨5, 5, 4⟩ : S31) )) (Reps.none _ _))); intro v142 w145 ho146 hb hg_ hnew_; clear hg_ hnew_; ((rw [← Ny141.out] at ho146)); have HO143 := Aside0.mk (Kd.R_lower (Kd.R_new' ho146 (Kd.R_lt HO136.out)) (below_size HB.out)); replace HO136 := Aside0.mk (Kd.R_elder' HO136.out (Kd.R_base ho146) hb); replace HB := Aside0.mk (below_step HB.out hb); clear hb ho146; obtain ⟨Ao147, co147, eo147⟩ := Kd.R_slice HO143.out; subst eo147) | ((with_reducible refine gate_callee (f := 25) rfl ?_); refine goesL_ (some 23) rfl rfl Tryz.func25 (by kernel_rfl) rfl #[.slice Ao147 y141.length co147] rfl (by (try simp only [List.map_toArray, List.map_cons, List.map_nil]); (rfl)) ?_; (with_reducible refine (busy_Time.calls k _ _ y141 t144 t145 _ ?side1 ?side2 A3.out).mono ?_); (case side1 => repeat ((exact (Kd.R_reads' HO143.out).2.2))); (case side2 => exact (Kd.R_reads' HO143.out).2.1); rintro e w148 ⟨rfl, hb⟩; refine ⟨_, rfl, ?_⟩; replace HO136 := Aside0.mk (Kd.R_below HO136.out hb); replace HO143 := Aside0.mk (Kd.R_below HO143.out hb); replace HB := Aside0.mk (below_step HB.out hb); (try clear hb); (try clear hb2); (try clear hk); (try clear hi)) | ((with_reducible refine gate_callee (f := 41) rfl ?_); refine goesL_ (some 26) rfl rfl Tryz.func41 (by kernel_rfl) rfl #[] rfl (by (try simp only [List.map_toArray, List.map_cons, List.map_nil]); (done)) ?_; (with_reducible refine (hortatorlaw7_Begun.calls  false _ A4.out).mono ?_); rintro e w149 ⟨rfl, hb⟩; refine ⟨_, rfl, ?_⟩; replace HO136 := Aside0.mk (Kd.R_below HO136.out hb); replace HO143 := Aside0.mk (Kd.R_below HO143.out hb); replace HB := Aside0.mk (below_step HB.out hb); (try clear hb); (try clear hb2); (try clear hk); (try clear hi)))
  go_ret
  exact ⟨by (rfl), by repeat ((with_reducible (exact HB.out)))⟩

/-! ### hortatorlaw9_Loads: function 24 -/
def hortatorlaw9_Loads.f (l0 : List (S31)) : Option ((List (S31))) := if 0 ≤ (mn (l0.length : Int) 10) then (if (mn (l0.length : Int) 10) ≤ (l0.length : Int) then ((some (l0.take ((mn (l0.length : Int) 10) : Int).toNat : List (S31))).bind fun y152 => (if ([] : List (S31)).length + y152.length < 5864062014805 then (some (([] : List (S31)) ++ y152)) else (none))) else (none)) else (none)
set_option maxHeartbeats 8000000 in
set_option maxRecDepth 100000 in
theorem hortatorlaw9_Loads.calls (A0 : Option Addr) (c0 : Nat) (l0 : List (S31)) (r : List (S31)) (w : World) (hr0 : Kd.C k31 w A0 l0.length l0) (hc0 : l0.length ≤ c0) (h : hortatorlaw9_Loads.f l0 = some r) :
  Calls Tryz.prog 24 #[.slice A0 l0.length c0] w fun e w' => ∃ v0_ : Value, e = .returned (v0_) ∧ Kd.R k31 31 w' w.heap.size (fun _ => True) v0_ r ∧ Below w.heap.size w w' := by
 have HR0 := Aside0.mk hr0
 have HC0 := Aside0.mk hc0
 clear hr0 hc0
 have HB := Aside0.mk (Below.refl w.heap.size w)
 have H : (if 0 ≤ (mn (l0.length : Int) 10) then (if (mn (l0.length : Int) 10) ≤ (l0.length : Int) then ((some (l0.take ((mn (l0.length : Int) 10) : Int).toNat : List (S31))).bind fun y152 => (if ([] : List (S31)).length + y152.length < 5864062014805 then (some (([] : List (S31)) ++ y152)) else (none))) else (none)) else (none)) = some r := h
 clear h
 obtain ⟨ji2, hji2⟩ : ∃ j_ : Int, (mn (l0.length : Int) 10) = j_ := ⟨_, rfl⟩
 replace H : (if 0 ≤ (ji2) then (if (ji2) ≤ (l0.length : Int) then ((some (l0.take ((ji2) : Int).toNat : List (S31))).bind fun y152 => (if ([] : List (S31)).length + y152.length < 5864062014805 then (some (([] : List (S31)) ++ y152)) else (none))) else (none)) else (none)) = some r := by (rw [hji2] at H; exact H)
 (try (have hji2h : ji2 ≤ 10 := by (rw [← hji2]; unfold mn; (repeat' split) <;> omega)))
 (try (have hji2g : ji2 ≤ 64 := by omega))
 (try (have hji2l : 0 ≤ ji2 := by (rw [← hji2]; unfold mn; (repeat' split) <;> omega)))
 (try (have hji2m : 0 ≤ ji2 := by omega))
 have hji2_ : (if 10 < (l0.length : Int) then 10 else (l0.length : Int)) = ji2 := hji2
 by_cases c3 : 0 ≤ (ji2)
 ·rw [if_pos c3] at H
  have c3b0 := eq_true c3
  have c3b1 : decide (0 ≤ (ji2)) = true := decide_eq_true c3
  clear c3
  by_cases c4 : (ji2) ≤ (l0.length : Int)
  ·rw [if_pos c4] at H
   have c4b0 := eq_true c4
   have c4b1 : decide ((ji2) ≤ (l0.length : Int)) = true := decide_eq_true c4
   clear c4
   obtain ⟨y152, hy152⟩ : ∃ y_ : List (S31), y_ = (l0.take ((ji2) : Int).toNat) := ⟨_, rfl⟩
   replace H : (if ([] : List (S31)).length + y152.length < 5864062014805 then (some (([] : List (S31)) ++ y152)) else (none)) = some r := by (have H2_ := (Option.bind_some _ _).symm.trans H; rw [hy152]; with_reducible exact H2_)
   have Ny152 := Aside0.mk hy152
   clear hy152
   by_cases c5 : ([] : List (S31)).length + y152.length < 5864062014805
   ·rw [if_pos c5] at H
    have LMc5 := Aside0.mk c5
    clear c5
    obtain ⟨y156, hy156⟩ : ∃ y_ : List (S31), y_ = (([] : List (S31)) ++ y152) := ⟨_, rfl⟩
    replace H : (some y156) = some r := by (rw [hy156]; with_reducible exact H)
    have Ny156 := Aside0.mk hy156
    clear hy156
    obtain rfl := Option.some.inj H
    have q6 : ((ji2) : Int) ≤ ((l0.length : Int) : Int) := of_decide_eq_true (by (with_reducible assumption))
    obtain ⟨i06, hi06, _, hsz6, _⟩ := info_parts info31
    have hroom6 : l0.length ≤ c0 := HC0.out
    have hC6 : Kd.C k31 _ A0 l0.length l0 := HR0.out
    have hcut6 := cut_to (P := Tryz.prog) 22 31 .i64 Tryz.underlying22 hi06 A0 l0.length c0 (ji2) (of_decide_eq_true (by (with_reducible assumption))) q6 hroom6
    have hr6 := Kd.C_take (m := ((ji2) : Int).toNat) hC6 (by omega)
    have hy6 : y152.length = ((ji2) : Int).toNat := (by rw [Ny152.out, List.length_take]; omega)
    rw [← Ny152.out] at hr6
    rw [← hy6] at hcut6
    have HR155 := Aside0.mk hr6
    have HC155 := Aside0.mk (show y152.length ≤ c0 from by omega)
    clear hr6 hC6 hroom6 hi06 hsz6
    have KY6 := Aside0.mk hy6
    clear hy6
    replace q6 := eq_true q6
    go_enter Tryz.func24, Tryz.ntmps24
    go_wp2_with (((with_reducible refine gate_builtin (b := .append) (xs := #[.const (.slice none 0 0), .tmp 7]) rfl ?_); at_builtin; refine Kd.R_append_rows k31 (w0 := w) w.heap.size rfl (.const (.slice none 0 0)) (.tmp 7) 22 31 (.agg #[(.int .i64 0), (.int .i64 0), (.int .i64 0)]) 24 rfl Tryz.underlying22 info31 rfl (by decide) (by omega) (.slice none 0 0) ([] : List (S31)) y152 _ _ _ (fun _ => True) (fun _ => False) rfl rfl ?aO ?aR (fun _ _ h => h) (fun _ h => h.elim) ?aF ?aB ?aS ?aL ?_; (case aR => repeat ((exact HR155.out))); (case aB => exact HB.out); (case aF => exact (fun _ _ => trivial)); (case aO => exact ((Kd.R_nil _ _ _ _ (fun _ => True)))); (case aS => exact below_size HB.out); (case aL => have := LMc5.out; omega); intro v157 w7 ho hb hg hat; rw [← Ny156.out] at ho; have HO158 := Aside0.mk (ho); replace HB := Aside0.mk (hb); clear ho hb hg hat))
    go_ret
    exact ⟨_, by (rfl), by exact HO158.out, by repeat ((with_reducible (exact HB.out)))⟩
   ·rw [if_neg c5] at H
    exact absurd H (by simp)
  ·rw [if_neg c4] at H
   exact absurd H (by simp)
 ·rw [if_neg c3] at H
  exact absurd H (by simp)

/-! ### hortatorref7_in: function 44 -/
def hortatorref7_in.f (a0 : Int) (a1 : Int) (a2 : Int) : Option (Bool) := if a0 ≥ a1 then (some (decide (a0 ≤ a2))) else (some false)
set_option maxHeartbeats 8000000 in
set_option maxRecDepth 100000 in
theorem hortatorref7_in.calls (a0 : Int) (a1 : Int) (a2 : Int) (r : Bool) (w : World) (h : hortatorref7_in.f a0 a1 a2 = some r) :
  Calls Tryz.prog 44 #[.int .i64 a0, .int .i64 a1, .int .i64 a2] w fun e w' => e = .returned (.bool r) ∧ Drawn0 w w' := by
 have H : (if a0 ≥ a1 then (some (decide (a0 ≤ a2))) else (some false)) = some r := h
 clear h
 by_cases c4 : a0 ≥ a1
 ·rw [if_pos c4] at H
  have c4b0 : decide (a1 ≤ a0) = true := decide_eq_true c4
  clear c4
  obtain rfl := Option.some.inj H
  go_enter Tryz.func44, Tryz.ntmps44
  go_wp2
  go_ret
  exact ⟨by (rfl), by repeat ((exact Drawn0.refl _))⟩
 ·rw [if_neg c4] at H
  have c4b0 : decide (a1 ≤ a0) = false := decide_eq_false c4
  clear c4
  obtain rfl := Option.some.inj H
  go_enter Tryz.func44, Tryz.ntmps44
  go_wp2
  go_ret
  exact ⟨by (rfl), by repeat ((exact Drawn0.refl _))⟩

/-! ### hortatorref7_Load: function 35 -/
def hortatorref7_Load.f (a0_0 : Int) (a0_1 : Int) (a0_2 : Int) : Option (Bool) := (hortatorref7_in.f a0_0 1 20000).bind fun t160 => (if t160 = true then (if a0_1 ≥ 1 then (if a0_1 ≤ a0_2 then (some (decide (a0_2 ≤ 200))) else (some false)) else (some false)) else (some false))
set_option maxHeartbeats 8000000 in
set_option maxRecDepth 100000 in
theorem hortatorref7_Load.calls (a0_0 : Int) (a0_1 : Int) (a0_2 : Int) (r : Bool) (w : World) (h : hortatorref7_Load.f a0_0 a0_1 a0_2 = some r) :
  Calls Tryz.prog 35 #[.agg #[.int .i64 a0_0, .int .i64 a0_1, .int .i64 a0_2]] w fun e w' => e = .returned (.bool r) ∧ Below w.heap.size w w' := by
 have hu31 := Tryz.underlying31
 have HB := Aside0.mk (Below.refl w.heap.size w)
 have H : ((hortatorref7_in.f a0_0 1 20000).bind fun t160 => (if t160 = true then (if a0_1 ≥ 1 then (if a0_1 ≤ a0_2 then (some (decide (a0_2 ≤ 200))) else (some false)) else (some false)) else (some false))) = some r := h
 clear h
 replace H := Option.bind_eq_some_iff.mp H
 obtain ⟨t160, A20, H⟩ := H
 have A2 := Aside0.mk A20
 clear A20
 by_cases c3 : t160 = true
 ·subst c3
  have H1 : (if a0_1 ≥ 1 then (if a0_1 ≤ a0_2 then (some (decide (a0_2 ≤ 200))) else (some false)) else (some false)) = some r := by rw [if_pos rfl] at H; exact H
  clear H
  have H := H1
  clear H1
  by_cases c4 : a0_1 ≥ 1
  ·rw [if_pos c4] at H
   have c4b0 : decide (1 ≤ a0_1) = true := decide_eq_true c4
   clear c4
   by_cases c5 : a0_1 ≤ a0_2
   ·rw [if_pos c5] at H
    have c5b0 : decide (a0_1 ≤ a0_2) = true := decide_eq_true c5
    clear c5
    obtain rfl := Option.some.inj H
    go_enter Tryz.func35, Tryz.ntmps35
    go_wp2_with (first | ((with_reducible refine gate_dst (N := 1) rfl ?_); refine box_event ?hg (N := 1) ?hd (cs := #[.int .i64 a0_0, .int .i64 a0_1, .int .i64 a0_2]) (t := 31) ?hr ?_; (case hd => rfl); (case hg => rfl); (case hr => (go_simp; done)); intro gb159 hg w6 hbox hb; have BK159 := Aside0.mk (hbox); have GW159 := Aside0.mk ((by rw [hg]; exact below_size HB.out : w.heap.size ≤ gb159)); have GE159 := Aside0.mk ((by rw [hg]; exact below_size HB.out : w.heap.size ≤ gb159)); replace HB := Aside0.mk (below_step HB.out hb); clear hb hbox hg; have hcz7_0 : w6.cell? ⟨gb159, 0, none⟩ = some (.int .i64 a0_0) := (blk_cell BK159.out 0).trans rfl; have hcz7_1 : w6.cell? ⟨gb159, 1, none⟩ = some (.int .i64 a0_1) := (blk_cell BK159.out 1).trans rfl; have hcz7_2 : w6.cell? ⟨gb159, 2, none⟩ = some (.int .i64 a0_2) := (blk_cell BK159.out 2).trans rfl; have hfz7_0 := blk_frozen BK159.out 0; have hfz7_1 := blk_frozen BK159.out 1; have hfz7_2 := blk_frozen BK159.out 2) | ((with_reducible refine gate_callee (f := 44) rfl ?_); refine goesL_ (some 5) rfl rfl Tryz.func44 (by kernel_rfl) rfl #[.int .i64 a0_0, .int .i64 1, .int .i64 20000] rfl (by (try simp only [List.map_toArray, List.map_cons, List.map_nil]); (rfl)) ?_; (with_reducible refine (hortatorref7_in.calls a0_0 1 20000 true _ A2.out).mono ?_); rintro e w' ⟨rfl, ⟨nd, rfl⟩⟩; refine ⟨_, rfl, ?_⟩))
    go_ret
    exact ⟨by (rfl), by repeat ((with_reducible first | exact HB.out | apply pw_below_drewN))⟩
   ·rw [if_neg c5] at H
    have c5b0 : decide (a0_1 ≤ a0_2) = false := decide_eq_false c5
    clear c5
    obtain rfl := Option.some.inj H
    go_enter Tryz.func35, Tryz.ntmps35
    go_wp2_with (first | ((with_reducible refine gate_dst (N := 1) rfl ?_); refine box_event ?hg (N := 1) ?hd (cs := #[.int .i64 a0_0, .int .i64 a0_1, .int .i64 a0_2]) (t := 31) ?hr ?_; (case hd => rfl); (case hg => rfl); (case hr => (go_simp; done)); intro gb159 hg w8 hbox hb; have BK159 := Aside0.mk (hbox); have GW159 := Aside0.mk ((by rw [hg]; exact below_size HB.out : w.heap.size ≤ gb159)); have GE159 := Aside0.mk ((by rw [hg]; exact below_size HB.out : w.heap.size ≤ gb159)); replace HB := Aside0.mk (below_step HB.out hb); clear hb hbox hg; have hcz9_0 : w8.cell? ⟨gb159, 0, none⟩ = some (.int .i64 a0_0) := (blk_cell BK159.out 0).trans rfl; have hcz9_1 : w8.cell? ⟨gb159, 1, none⟩ = some (.int .i64 a0_1) := (blk_cell BK159.out 1).trans rfl; have hcz9_2 : w8.cell? ⟨gb159, 2, none⟩ = some (.int .i64 a0_2) := (blk_cell BK159.out 2).trans rfl; have hfz9_0 := blk_frozen BK159.out 0; have hfz9_1 := blk_frozen BK159.out 1; have hfz9_2 := blk_frozen BK159.out 2) | ((with_reducible refine gate_callee (f := 44) rfl ?_); refine goesL_ (some 5) rfl rfl Tryz.func44 (by kernel_rfl) rfl #[.int .i64 a0_0, .int .i64 1, .int .i64 20000] rfl (by (try simp only [List.map_toArray, List.map_cons, List.map_nil]); (rfl)) ?_; (with_reducible refine (hortatorref7_in.calls a0_0 1 20000 true _ A2.out).mono ?_); rintro e w' ⟨rfl, ⟨nd, rfl⟩⟩; refine ⟨_, rfl, ?_⟩))
    go_ret
    exact ⟨by (rfl), by repeat ((with_reducible first | exact HB.out | apply pw_below_drewN))⟩
  ·rw [if_neg c4] at H
   have c4b0 : decide (1 ≤ a0_1) = false := decide_eq_false c4
   clear c4
   obtain rfl := Option.some.inj H
   go_enter Tryz.func35, Tryz.ntmps35
   go_wp2_with (first | ((with_reducible refine gate_dst (N := 1) rfl ?_); refine box_event ?hg (N := 1) ?hd (cs := #[.int .i64 a0_0, .int .i64 a0_1, .int .i64 a0_2]) (t := 31) ?hr ?_; (case hd => rfl); (case hg => rfl); (case hr => (go_simp; done)); intro gb159 hg w10 hbox hb; have BK159 := Aside0.mk (hbox); have GW159 := Aside0.mk ((by rw [hg]; exact below_size HB.out : w.heap.size ≤ gb159)); have GE159 := Aside0.mk ((by rw [hg]; exact below_size HB.out : w.heap.size ≤ gb159)); replace HB := Aside0.mk (below_step HB.out hb); clear hb hbox hg; have hcz11_0 : w10.cell? ⟨gb159, 0, none⟩ = some (.int .i64 a0_0) := (blk_cell BK159.out 0).trans rfl; have hcz11_1 : w10.cell? ⟨gb159, 1, none⟩ = some (.int .i64 a0_1) := (blk_cell BK159.out 1).trans rfl; have hcz11_2 : w10.cell? ⟨gb159, 2, none⟩ = some (.int .i64 a0_2) := (blk_cell BK159.out 2).trans rfl; have hfz11_0 := blk_frozen BK159.out 0; have hfz11_1 := blk_frozen BK159.out 1; have hfz11_2 := blk_frozen BK159.out 2) | ((with_reducible refine gate_callee (f := 44) rfl ?_); refine goesL_ (some 5) rfl rfl Tryz.func44 (by kernel_rfl) rfl #[.int .i64 a0_0, .int .i64 1, .int .i64 20000] rfl (by (try simp only [List.map_toArray, List.map_cons, List.map_nil]); (rfl)) ?_; (with_reducible refine (hortatorref7_in.calls a0_0 1 20000 true _ A2.out).mono ?_); rintro e w' ⟨rfl, ⟨nd, rfl⟩⟩; refine ⟨_, rfl, ?_⟩))
   go_ret
   exact ⟨by (rfl), by repeat ((with_reducible first | exact HB.out | apply pw_below_drewN))⟩
 ·replace c3 := Bool.eq_false_iff.mpr c3
  subst c3
  have H1 : (some false) = some r := by rw [if_neg (show ¬ (false = true) by decide)] at H; exact H
  clear H
  have H := H1
  clear H1
  obtain rfl := Option.some.inj H
  go_enter Tryz.func35, Tryz.ntmps35
  go_wp2_with (first | ((with_reducible refine gate_dst (N := 1) rfl ?_); refine box_event ?hg (N := 1) ?hd (cs := #[.int .i64 a0_0, .int .i64 a0_1, .int .i64 a0_2]) (t := 31) ?hr ?_; (case hd => rfl); (case hg => rfl); (case hr => (go_simp; done)); intro gb159 hg w12 hbox hb; have BK159 := Aside0.mk (hbox); have GW159 := Aside0.mk ((by rw [hg]; exact below_size HB.out : w.heap.size ≤ gb159)); have GE159 := Aside0.mk ((by rw [hg]; exact below_size HB.out : w.heap.size ≤ gb159)); replace HB := Aside0.mk (below_step HB.out hb); clear hb hbox hg; have hcz13_0 : w12.cell? ⟨gb159, 0, none⟩ = some (.int .i64 a0_0) := (blk_cell BK159.out 0).trans rfl; have hcz13_1 : w12.cell? ⟨gb159, 1, none⟩ = some (.int .i64 a0_1) := (blk_cell BK159.out 1).trans rfl; have hcz13_2 : w12.cell? ⟨gb159, 2, none⟩ = some (.int .i64 a0_2) := (blk_cell BK159.out 2).trans rfl; have hfz13_0 := blk_frozen BK159.out 0; have hfz13_1 := blk_frozen BK159.out 1; have hfz13_2 := blk_frozen BK159.out 2) | ((with_reducible refine gate_callee (f := 44) rfl ?_); refine goesL_ (some 5) rfl rfl Tryz.func44 (by kernel_rfl) rfl #[.int .i64 a0_0, .int .i64 1, .int .i64 20000] rfl (by (try simp only [List.map_toArray, List.map_cons, List.map_nil]); (rfl)) ?_; (with_reducible refine (hortatorref7_in.calls a0_0 1 20000 false _ A2.out).mono ?_); rintro e w' ⟨rfl, ⟨nd, rfl⟩⟩; refine ⟨_, rfl, ?_⟩))
  go_ret
  exact ⟨by (rfl), by repeat ((with_reducible first | exact HB.out | apply pw_below_drewN))⟩

/-! ### hortatorref7_Loads: function 29 -/
def hortatorref7_Loads.l0 : Nat → List (S31) → Int → Option (Bool)
 | 0, _, _ => none
 | k + 1, x0, x3 => if x3 < (x0.length : Int) then (if 0 ≤ x3 then ((hortatorref7_Load.f ((rd_T31 x0 x3).f0) ((rd_T31 x0 x3).f1) ((rd_T31 x0 x3).f2)).bind fun t162 => (if t162 = true then (hortatorref7_Loads.l0 k x0 (wrap64 (x3 + 1))) else (some false))) else (none)) else (some (decide ((x0.length : Int) ≤ 24)))
def hortatorref7_Loads.f (k : Nat) (l0 : List (S31)) : Option (Bool) := hortatorref7_Loads.l0 k l0 0
set_option maxHeartbeats 8000000 in
set_option maxRecDepth 100000 in
theorem hortatorref7_Loads.calls (k : Nat) (A0 : Option Addr) (c0 : Nat) (l0 : List (S31)) (r : Bool) (w : World) (hr0 : Kd.C k31 w A0 l0.length l0) (hc0 : l0.length ≤ c0) (h : hortatorref7_Loads.f k l0 = some r) :
  Calls Tryz.prog 29 #[.slice A0 l0.length c0] w fun e w' => e = .returned (.bool r) ∧ Below w.heap.size w w' := by
 have hu31 := Tryz.underlying31
 have HR0 := Aside0.mk hr0
 have HC0 := Aside0.mk hc0
 clear hr0 hc0
 have HB := Aside0.mk (Below.refl w.heap.size w)
 have H : (hortatorref7_Loads.l0 k l0 0) = some r := h
 clear h
 have H' := Aside0.mk H
 clear H
 go_enter Tryz.func29, Tryz.ntmps29
 go_wp2
 go_loopg [3] k (fun kq v3 w' => ∃ (x3_1 : Int), v3 = .int .i64 x3_1 ∧ Aside0 (hortatorref7_Loads.l0 kq l0 x3_1 = some r) ∧ Aside0 (kq ≤ k) ∧ Aside0 (Below w.heap.size w w'))
 case atStart => exact ⟨(0), (by (rfl)), H', ⟨Nat.le_refl _⟩, ⟨HB.out⟩⟩
 case round =>
  clear H'
  obtain ⟨x3_1, rfl, HA, HK1, HB⟩ := hrel
  cases gk with
  | zero => exact absurd HA.out (by simp [hortatorref7_Loads.l0])
  | succ k1 =>
   have H := HA.out
   clear HA
   simp only [hortatorref7_Loads.l0] at H
   by_cases c2 : x3_1 < (l0.length : Int)
   ·rw [if_pos c2] at H
    have c2b0 : decide (x3_1 < (l0.length : Int)) = true := decide_eq_true c2
    clear c2
    by_cases c3 : 0 ≤ x3_1
    ·rw [if_pos c3] at H
     have c3b0 : decide (0 ≤ x3_1) = true := decide_eq_true c3
     clear c3
     replace H := Option.bind_eq_some_iff.mp H
     obtain ⟨t162, A40, H⟩ := H
     have A4 := Aside0.mk A40
     clear A40
     by_cases c5 : t162 = true
     ·subst c5
      have H1 : (hortatorref7_Loads.l0 k1 l0 (wrap64 (x3_1 + 1))) = some r := by rw [if_pos rfl] at H; exact H
      clear H
      have H := H1
      clear H1
      have H' := Aside0.mk H
      clear H
      have p161 : 0 ≤ (x3_1 : Int) := of_decide_eq_true (by (with_reducible assumption))
      have q161 : x3_1 < (l0.length : Int) := of_decide_eq_true (by (with_reducible assumption))
      obtain ⟨ad161, e161, hx161_0, hx161_1, hx161_2⟩ := at_T31 HR0.out x3_1 p161 q161
      cases e161
      replace hx161_0 := (HB.out.cell (World.block_lt_of_cell? w _ hx161_0)).trans hx161_0
      replace hx161_1 := (HB.out.cell (World.block_lt_of_cell? w _ hx161_1)).trans hx161_1
      replace hx161_2 := (HB.out.cell (World.block_lt_of_cell? w _ hx161_2)).trans hx161_2
      replace p161 := eq_true p161
      replace q161 := eq_true q161
      go_wp2_with (((with_reducible refine gate_callee (f := 35) rfl ?_); refine goesL_ (some 14) rfl rfl Tryz.func35 (by kernel_rfl) rfl #[.agg #[.int .i64 ((rd_T31 l0 x3_1).f0), .int .i64 ((rd_T31 l0 x3_1).f1), .int .i64 ((rd_T31 l0 x3_1).f2)]] rfl (by (try simp only [List.map_toArray, List.map_cons, List.map_nil]); (rfl)) ?_; (with_reducible refine (hortatorref7_Load.calls ((rd_T31 l0 x3_1).f0) ((rd_T31 l0 x3_1).f1) ((rd_T31 l0 x3_1).f2) true _ A4.out).mono ?_); rintro e w6 ⟨rfl, hb⟩; refine ⟨_, rfl, ?_⟩; replace HB := Aside0.mk (below_step HB.out hb); (try clear hb); (try clear hb2); (try clear hk); (try clear hi)))
      go_roundg k1
      case measure => have := HK1.out; omega
      case rel => exact ⟨(wrap64 (x3_1 + 1)), (by (rfl)), H', ⟨by have := HK1.out; omega⟩, ⟨HB.out⟩⟩
     ·replace c5 := Bool.eq_false_iff.mpr c5
      subst c5
      have H1 : (some false) = some r := by rw [if_neg (show ¬ (false = true) by decide)] at H; exact H
      clear H
      have H := H1
      clear H1
      obtain rfl := Option.some.inj H
      have p161 : 0 ≤ (x3_1 : Int) := of_decide_eq_true (by (with_reducible assumption))
      have q161 : x3_1 < (l0.length : Int) := of_decide_eq_true (by (with_reducible assumption))
      obtain ⟨ad161, e161, hx161_0, hx161_1, hx161_2⟩ := at_T31 HR0.out x3_1 p161 q161
      cases e161
      replace hx161_0 := (HB.out.cell (World.block_lt_of_cell? w _ hx161_0)).trans hx161_0
      replace hx161_1 := (HB.out.cell (World.block_lt_of_cell? w _ hx161_1)).trans hx161_1
      replace hx161_2 := (HB.out.cell (World.block_lt_of_cell? w _ hx161_2)).trans hx161_2
      replace p161 := eq_true p161
      replace q161 := eq_true q161
      go_wp2_with (((with_reducible refine gate_callee (f := 35) rfl ?_); refine goesL_ (some 14) rfl rfl Tryz.func35 (by kernel_rfl) rfl #[.agg #[.int .i64 ((rd_T31 l0 x3_1).f0), .int .i64 ((rd_T31 l0 x3_1).f1), .int .i64 ((rd_T31 l0 x3_1).f2)]] rfl (by (try simp only [List.map_toArray, List.map_cons, List.map_nil]); (rfl)) ?_; (with_reducible refine (hortatorref7_Load.calls ((rd_T31 l0 x3_1).f0) ((rd_T31 l0 x3_1).f1) ((rd_T31 l0 x3_1).f2) false _ A4.out).mono ?_); rintro e w7 ⟨rfl, hb⟩; refine ⟨_, rfl, ?_⟩; replace HB := Aside0.mk (below_step HB.out hb); (try clear hb); (try clear hb2); (try clear hk); (try clear hi)))
      go_ret
      exact ⟨by (rfl), by repeat ((with_reducible (exact HB.out)))⟩
    ·rw [if_neg c3] at H
     exact absurd H (by simp)
   ·rw [if_neg c2] at H
    have c2b0 : decide (x3_1 < (l0.length : Int)) = false := decide_eq_false c2
    clear c2
    obtain rfl := Option.some.inj H
    go_wp2
    go_ret
    exact ⟨by (rfl), by repeat ((with_reducible (exact HB.out)))⟩

end Go.Proofs.YtddepomgaeadpaaGreatDoor.PAll
