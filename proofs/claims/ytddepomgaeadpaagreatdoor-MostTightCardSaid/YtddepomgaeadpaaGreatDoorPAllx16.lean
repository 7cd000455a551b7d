-- Written by a program of this session (wip/pp.py) over the kit's print, with hand-proved contracts beside it.
import Derived.Test.YtddepomgaeadpaaGreatDoorPAllx0
import Derived.Test.YtddepomgaeadpaaGreatDoorPAllx2
import Derived.Test.YtddepomgaeadpaaGreatDoorPAllx3
import Derived.Test.YtddepomgaeadpaaGreatDoorPAllx4
namespace Go.Proofs.YtddepomgaeadpaaGreatDoor.PAll
open Go.Shelf Go.Lib Go.RowKit Go.Proofs.YtddepomgaeadpaaGreatDoorW.PrintWords Go.Proofs.YtddepomgaeadpaaGreatDoorW.PrintLast Go.Proofs.YtddepomgaeadpaaGreatDoorW.PrintMore
attribute [local go_sem] max2_int min2_int max_two min_two max_three min_three max_four min_four   -- for this text's walks alone
set_option linter.unusedVariables false
set_option linter.unusedSimpArgs false

/-! ### hortatorlaw9_MostEmpty: function 17 -/
def hortatorlaw9_MostEmpty.f (k : Nat) (a0 : Int) (a1 : Int) (a2 : Int) : Option (Bool) := (hortatorlaw9_begun.f k).bind fun t456 => (if t456 = true then (if (wrap64 (1 + (Go.bits .and .i64 a0 127))) > (wrap64 (1 + (Go.bits .and .i64 a1 127))) then ((most_Fit.f k ([] : List (S31)) (wrap64 (1 + (Go.bits .and .i64 a0 127))) (wrap64 (1 + (Go.bits .and .i64 a1 127))) (Go.bits .and .i64 a2 127)).bind fun t457 => (some (t457 == 0))) else ((most_Fit.f k ([] : List (S31)) (wrap64 (1 + (Go.bits .and .i64 a0 127))) (wrap64 (1 + (Go.bits .and .i64 a1 127))) (Go.bits .and .i64 a2 127)).bind fun t458 => (if t458 = (mn (Go.bits .and .i64 a2 127) (wrap64 (1 + (Go.bits .and .i64 a0 127)))) then ((most_Tight.f k ([] : List (S31)) (wrap64 (1 + (Go.bits .and .i64 a1 127))) (Go.bits .and .i64 a2 127)).bind fun t459 => (some (t459 == (mn (Go.bits .and .i64 a2 127) (wrap64 (1 + (Go.bits .and .i64 a1 127))))))) else (none)))) else (none))
set_option maxHeartbeats 8000000 in
set_option maxRecDepth 100000 in
theorem hortatorlaw9_MostEmpty.calls (k : Nat) (a0 : Int) (a1 : Int) (a2 : Int) (r : Bool) (w : World) (h : hortatorlaw9_MostEmpty.f k a0 a1 a2 = some r) :
  Calls Tryz.prog 17 #[.int .i64 a0, .int .i64 a1, .int .i64 a2] w fun e w' => e = .returned (.bool r) ∧ Below w.heap.size w w' := by
 have HB := Aside0.mk (Below.refl w.heap.size w)
 have H : ((hortatorlaw9_begun.f k).bind fun t456 => (if t456 = true then (if (wrap64 (1 + (Go.bits .and .i64 a0 127))) > (wrap64 (1 + (Go.bits .and .i64 a1 127))) then ((most_Fit.f k ([] : List (S31)) (wrap64 (1 + (Go.bits .and .i64 a0 127))) (wrap64 (1 + (Go.bits .and .i64 a1 127))) (Go.bits .and .i64 a2 127)).bind fun t457 => (some (t457 == 0))) else ((most_Fit.f k ([] : List (S31)) (wrap64 (1 + (Go.bits .and .i64 a0 127))) (wrap64 (1 + (Go.bits .and .i64 a1 127))) (Go.bits .and .i64 a2 127)).bind fun t458 => (if t458 = (mn (Go.bits .and .i64 a2 127) (wrap64 (1 + (Go.bits .and .i64 a0 127)))) then ((most_Tight.f k ([] : List (S31)) (wrap64 (1 + (Go.bits .and .i64 a1 127))) (Go.bits .and .i64 a2 127)).bind fun t459 => (some (t459 == (mn (Go.bits .and .i64 a2 127) (wrap64 (1 + (Go.bits .and .i64 a1 127))))))) else (none)))) else (none))) = some r := h
 clear h
 replace H := Option.bind_eq_some_iff.mp H
 obtain ⟨t456, A40, H⟩ := H
 have A4 := Aside0.mk A40
 clear A40
 by_cases c5 : t456 = true
 ·subst c5
  have H1 : (if (wrap64 (1 + (Go.bits .and .i64 a0 127))) > (wrap64 (1 + (Go.bits .and .i64 a1 127))) then ((most_Fit.f k ([] : List (S31)) (wrap64 (1 + (Go.bits .and .i64 a0 127))) (wrap64 (1 + (Go.bits .and .i64 a1 127))) (Go.bits .and .i64 a2 127)).bind fun t457 => (some (t457 == 0))) else ((most_Fit.f k ([] : List (S31)) (wrap64 (1 + (Go.bits .and .i64 a0 127))) (wrap64 (1 + (Go.bits .and .i64 a1 127))) (Go.bits .and .i64 a2 127)).bind fun t458 => (if t458 = (mn (Go.bits .and .i64 a2 127) (wrap64 (1 + (Go.bits .and .i64 a0 127)))) then ((most_Tight.f k ([] : List (S31)) (wrap64 (1 + (Go.bits .and .i64 a1 127))) (Go.bits .and .i64 a2 127)).bind fun t459 => (some (t459 == (mn (Go.bits .and .i64 a2 127) (wrap64 (1 + (Go.bits .and .i64 a1 127))))))) else (none)))) = some r := by rw [if_pos rfl] at H; exact H
  clear H
  have H := H1
  clear H1
  by_cases c6 : (wrap64 (1 + (Go.bits .and .i64 a0 127))) > (wrap64 (1 + (Go.bits .and .i64 a1 127)))
  ·rw [if_pos c6] at H
   have c6b0 : decide ((wrap64 (1 + (Go.bits .and .i64 a1 127))) < (wrap64 (1 + (Go.bits .and .i64 a0 127)))) = true := decide_eq_true c6
   clear c6
   replace H := Option.bind_eq_some_iff.mp H
   obtain ⟨t457, A70, H⟩ := H
   have A7 := Aside0.mk A70
   clear A70
   obtain rfl := Option.some.inj H
   go_enter Tryz.func17, Tryz.ntmps17
   go_wp2_with (first | ((with_reducible refine gate_callee (f := 23) rfl ?_); refine goesL_ (some 8) rfl rfl Tryz.func23 (by kernel_rfl) rfl #[] rfl (by (try simp only [List.map_toArray, List.map_cons, List.map_nil]); (done)) ?_; (with_reducible refine (hortatorlaw9_begun.calls k  true _ A4.out).mono ?_); rintro e w8 ⟨rfl, hb⟩; refine ⟨_, rfl, ?_⟩; have n0_ := Aside0.mk (below_step (by repeat ((with_reducible (exact HB.out)))) hb); clear HB; have HB := n0_; clear n0_; (try clear hb); (try clear hb2); (try clear hk); (try clear hi)) | ((with_reducible refine gate_callee (f := 36) rfl ?_); refine goesL_ (some 25) rfl rfl Tryz.func36 (by kernel_rfl) rfl #[.slice none 0 0, .int .i64 (wrap64 (1 + (Go.bits .and .i64 a0 127))), .int .i64 (wrap64 (1 + (Go.bits .and .i64 a1 127))), .int .i64 (Go.bits .and .i64 a2 127)] rfl (by (try simp only [List.map_toArray, List.map_cons, List.map_nil]); (rfl)) ?_; (refine (most_Fit.calls k _ _ ([] : List (S31)) (wrap64 (1 + (Go.bits .and .i64 a0 127))) (wrap64 (1 + (Go.bits .and .i64 a1 127))) (Go.bits .and .i64 a2 127) t457 _ ?side1 ?side2 A7.out).mono ?_); (case side1 => exact Kd.C_nil _ _); (case side2 => exact Nat.le_refl _); rintro e w9 ⟨rfl, hb⟩; refine ⟨_, rfl, ?_⟩; have n0_ := Aside0.mk (below_step (by repeat ((with_reducible (exact HB.out)))) hb); clear HB; have HB := n0_; clear n0_; (try clear hb); (try clear hb2); (try clear hk); (try clear hi)))
   go_ret
   exact ⟨by (rfl), by repeat ((with_reducible (exact HB.out)))⟩
  ·rw [if_neg c6] at H
   have c6b0 : decide ((wrap64 (1 + (Go.bits .and .i64 a1 127))) < (wrap64 (1 + (Go.bits .and .i64 a0 127)))) = false := decide_eq_false c6
   clear c6
   replace H := Option.bind_eq_some_iff.mp H
   obtain ⟨t458, A100, H⟩ := H
   have A10 := Aside0.mk A100
   clear A100
   obtain ⟨ji11, hji11⟩ : ∃ j_ : Int, (mn (Go.bits .and .i64 a2 127) (wrap64 (1 + (Go.bits .and .i64 a0 127)))) = j_ := ⟨_, rfl⟩
   replace H : (if t458 = (ji11) then ((most_Tight.f k ([] : List (S31)) (wrap64 (1 + (Go.bits .and .i64 a1 127))) (Go.bits .and .i64 a2 127)).bind fun t459 => (some (t459 == (mn (Go.bits .and .i64 a2 127) (wrap64 (1 + (Go.bits .and .i64 a1 127))))))) else (none)) = some r := by (rw [hji11] at H; exact H)
   (try rw [hji11] at A4)
   (try rw [hji11] at A10)
   have hji11_ : (if (wrap64 (1 + (Go.bits .and .i64 a0 127))) < (Go.bits .and .i64 a2 127) then (wrap64 (1 + (Go.bits .and .i64 a0 127))) else (Go.bits .and .i64 a2 127)) = ji11 := hji11
   by_cases c12 : t458 = (ji11)
   ·rw [if_pos c12] at H
    have c12b0 : (t458 == (ji11)) = true := beq_iff_eq.mpr c12
    have c12b1 : (t458 != (ji11)) = false := bne_eq_false_iff_eq.mpr c12
    clear c12
    replace H := Option.bind_eq_some_iff.mp H
    obtain ⟨t459, A130, H⟩ := H
    have A13 := Aside0.mk A130
    clear A130
    obtain ⟨ji14, hji14⟩ : ∃ j_ : Int, (mn (Go.bits .and .i64 a2 127) (wrap64 (1 + (Go.bits .and .i64 a1 127)))) = j_ := ⟨_, rfl⟩
    replace H : (some (t459 == (ji14))) = some r := by (rw [hji14] at H; exact H)
    (try rw [hji14] at A4)
    (try rw [hji14] at A10)
    (try rw [hji14] at A13)
    have hji14_ : (if (wrap64 (1 + (Go.bits .and .i64 a1 127))) < (Go.bits .and .i64 a2 127) then (wrap64 (1 + (Go.bits .and .i64 a1 127))) else (Go.bits .and .i64 a2 127)) = ji14 := hji14
    obtain rfl := Option.some.inj H
    go_enter Tryz.func17, Tryz.ntmps17
    go_wp2_with (first | ((with_reducible refine gate_callee (f := 23) rfl ?_); refine goesL_ (some 8) rfl rfl Tryz.func23 (by kernel_rfl) rfl #[] rfl (by (try simp only [List.map_toArray, List.map_cons, List.map_nil]); (done)) ?_; (with_reducible refine (hortatorlaw9_begun.calls k  true _ A4.out).mono ?_); rintro e w15 ⟨rfl, hb⟩; refine ⟨_, rfl, ?_⟩; have n0_ := Aside0.mk (below_step (by repeat ((with_reducible (exact HB.out)))) hb); clear HB; have HB := n0_; clear n0_; (try clear hb); (try clear hb2); (try clear hk); (try clear hi)) | ((with_reducible refine gate_callee (f := 36) rfl ?_); refine goesL_ (some 30) rfl rfl Tryz.func36 (by kernel_rfl) rfl #[.slice none 0 0, .int .i64 (wrap64 (1 + (Go.bits .and .i64 a0 127))), .int .i64 (wrap64 (1 + (Go.bits .and .i64 a1 127))), .int .i64 (Go.bits .and .i64 a2 127)] rfl (by (try simp only [List.map_toArray, List.map_cons, List.map_nil]); (rfl)) ?_; (refine (most_Fit.calls k _ _ ([] : List (S31)) (wrap64 (1 + (Go.bits .and .i64 a0 127))) (wrap64 (1 + (Go.bits .and .i64 a1 127))) (Go.bits .and .i64 a2 127) t458 _ ?side1 ?side2 A10.out).mono ?_); (case side1 => exact Kd.C_nil _ _); (case side2 => exact Nat.le_refl _); rintro e w16 ⟨rfl, hb⟩; refine ⟨_, rfl, ?_⟩; have n0_ := Aside0.mk (below_step (by repeat ((with_reducible (exact HB.out)))) hb); clear HB; have HB := n0_; clear n0_; (try clear hb); (try clear hb2); (try clear hk); (try clear hi)) | (go_at_call 38; (refine (most_Tight.calls k _ _ ([] : List (S31)) (wrap64 (1 + (Go.bits .and .i64 a1 127))) (Go.bits .and .i64 a2 127) t459 _ ?side1 ?side2 A13.out).mono ?_); (case side1 => exact Kd.C_nil _ _); (case side2 => exact Nat.le_refl _); rintro e w17 ⟨rfl, hb⟩; have n0_ := Aside0.mk (below_step (by repeat ((with_reducible (exact HB.out)))) hb); clear HB; have HB := n0_; clear n0_; (try clear hb); (try clear hb2); (try clear hk); (try clear hi)))
    go_ret
    exact ⟨by (rfl), by repeat ((with_reducible (exact HB.out)))⟩
   ·rw [if_neg c12] at H
    exact absurd H (by simp)
 ·replace c5 := Bool.eq_false_iff.mpr c5
  subst c5
  have H1 : (none) = some r := by rw [if_neg (show ¬ (false = true) by decide)] at H; exact H
  clear H
  have H := H1
  clear H1
  exact absurd H (by simp)

/-! ### hortatorlaw9_MostTight: function 18 -/
def hortatorlaw9_MostTight.l0 : Nat → List (S31) → Int → Int → Int → Int → Option (Bool)
 | 0, _, _, _, _, _ => none
 | k + 1, x0, x1, x2, x8, x9 => if x9 ≤ x8 then ((hortatorlaw9_Loads.f x0).bind fun t473 => (if t473.length < 5864062014805 then ((demand_Fits.f k (t473 ++ [(⟨x9, x9, x1⟩ : S31)])).bind fun t479 => (if t479 = true then (hortatorlaw9_MostTight.l0 k x0 x1 x2 x8 (wrap64 (x9 + 1))) else (none))) else (none))) else (if x8 = (mn x2 x1) then (some true) else ((hortatorlaw9_Loads.f x0).bind fun t466 => (if t466.length < 5864062014805 then ((demand_Fits.f k (t466 ++ [(⟨wrap64 (x8 + 1), wrap64 (x8 + 1), x1⟩ : S31)])).bind fun t472 => (some (!t472))) else (none))))
def hortatorlaw9_MostTight.f (k : Nat) (l0 : List (S31)) (a1 : Int) (a2 : Int) : Option (Bool) := (hortatorlaw9_begun.f k).bind fun t460 => (if t460 = true then ((hortatorlaw9_Loads.f l0).bind fun t461 => ((most_Tight.f k t461 (wrap64 (1 + (Go.bits .and .i64 a1 63))) (wrap64 (1 + (Go.bits .and .i64 a2 31)))).bind fun t464 => ((demand_Fits.f k t461).bind fun t465 => (if t465 = true then (hortatorlaw9_MostTight.l0 k t461 (wrap64 (1 + (Go.bits .and .i64 a1 63))) (wrap64 (1 + (Go.bits .and .i64 a2 31))) t464 1) else (some (t464 == 0)))))) else (none))
set_option maxHeartbeats 8000000 in
set_option maxRecDepth 100000 in
theorem hortatorlaw9_MostTight.calls (k : Nat) (A0 : Option Addr) (c0 : Nat) (l0 : List (S31)) (a1 : Int) (a2 : Int) (r : Bool) (w : World) (hr0 : Kd.C k31 w A0 l0.length l0) (hc0 : l0.length ≤ c0) (h : hortatorlaw9_MostTight.f k l0 a1 a2 = some r) :
  Calls Tryz.prog 18 #[.slice A0 l0.length c0, .int .i64 a1, .int .i64 a2] w fun e w' => e = .returned (.bool r) ∧ Below w.heap.size w w' := by
 have hu31 := Tryz.underlying31
 have HR0 := Aside0.mk hr0
 have HC0 := Aside0.mk hc0
 clear hr0 hc0
 have HB := Aside0.mk (Below.refl w.heap.size w)
 have H : ((hortatorlaw9_begun.f k).bind fun t460 => (if t460 = true then ((hortatorlaw9_Loads.f l0).bind fun t461 => ((most_Tight.f k t461 (wrap64 (1 + (Go.bits .and .i64 a1 63))) (wrap64 (1 + (Go.bits .and .i64 a2 31)))).bind fun t464 => ((demand_Fits.f k t461).bind fun t465 => (if t465 = true then (hortatorlaw9_MostTight.l0 k t461 (wrap64 (1 + (Go.bits .and .i64 a1 63))) (wrap64 (1 + (Go.bits .and .i64 a2 31))) t464 1) else (some (t464 == 0)))))) else (none))) = some r := h
 clear h
 replace H := Option.bind_eq_some_iff.mp H
 obtain ⟨t460, A40, H⟩ := H
 have A4 := Aside0.mk A40
 clear A40
 by_cases c5 : t460 = true
 ·subst c5
  have H1 : ((hortatorlaw9_Loads.f l0).bind fun t461 => ((most_Tight.f k t461 (wrap64 (1 + (Go.bits .and .i64 a1 63))) (wrap64 (1 + (Go.bits .and .i64 a2 31)))).bind fun t464 => ((demand_Fits.f k t461).bind fun t465 => (if t465 = true then (hortatorlaw9_MostTight.l0 k t461 (wrap64 (1 + (Go.bits .and .i64 a1 63))) (wrap64 (1 + (Go.bits .and .i64 a2 31))) t464 1) else (some (t464 == 0)))))) = some r := by rw [if_pos rfl] at H; exact H
  clear H
  have H := H1
  clear H1
  replace H := Option.bind_eq_some_iff.mp H
  obtain ⟨t461, A60, H⟩ := H
  have A6 := Aside0.mk A60
  clear A60
  replace H := Option.bind_eq_some_iff.mp H
  obtain ⟨t464, A70, H⟩ := H
  have A7 := Aside0.mk A70
  clear A70
  replace H := Option.bind_eq_some_iff.mp H
  obtain ⟨t465, A80, H⟩ := H
  have A8 := Aside0.mk A80
  clear A80
  by_cases c9 : t465 = true
  ·subst c9
   have H1 : (hortatorlaw9_MostTight.l0 k t461 (wrap64 (1 + (Go.bits .and .i64 a1 63))) (wrap64 (1 + (Go.bits .and .i64 a2 31))) t464 1) = some r := by rw [if_pos rfl] at H; exact H
   clear H
   have H := H1
   clear H1
   have H' := Aside0.mk H
   clear H
   go_enter Tryz.func18, Tryz.ntmps18
   go_wp2_with (first | ((with_reducible refine gate_callee (f := 23) rfl ?_); refine goesL_ (some 10) rfl rfl Tryz.func23 (by kernel_rfl) rfl #[] rfl (by (try simp only [List.map_toArray, List.map_cons, List.map_nil]); (done)) ?_; (with_reducible refine (hortatorlaw9_begun.calls k  true _ A4.out).mono ?_); rintro e w10 ⟨rfl, hb⟩; refine ⟨_, rfl, ?_⟩; have n0_ := Aside0.mk (below_step (by repeat ((with_reducible (exact HB.out)))) hb); clear HB; have HB := n0_; clear n0_; (try clear hb); (try clear hb2); (try clear hk); (try clear hi)) | ((with_reducible refine gate_callee (f := 24) rfl ?_); refine goesL_ (some 14) rfl rfl Tryz.func24 (by kernel_rfl) rfl #[.slice A0 l0.length c0] rfl (by (try simp only [List.map_toArray, List.map_cons, List.map_nil]); (rfl)) ?_; (with_reducible refine (hortatorlaw9_Loads.calls _ _ l0 t461 _ ?side1 ?side2 A6.out).mono ?_); (case side1 => repeat ((exact (Kd.C_below HR0.out HB.out)))); (case side2 => exact HC0.out); rintro e w11 ⟨v462, rfl, ho0, hb⟩; refine ⟨_, rfl, ?_⟩; have n0_ := Aside0.mk (Kd.R_lower ho0 (below_size (by repeat ((with_reducible (exact HB.out)))))); have n1_ := Aside0.mk (below_step (by repeat ((with_reducible (exact HB.out)))) hb); clear HB; have HO463 := n0_; have HB := n1_; clear n0_ n1_; (try clear hb); (try clear hb2); (try clear hk); (try clear hi); (try clear ho0); obtain ⟨Ao12, co12, eo12⟩ := Kd.R_slice HO463.out; subst eo12) | ((with_reducible refine gate_callee (f := 38) rfl ?_); refine goesL_ (some 24) rfl rfl Tryz.func38 (by kernel_rfl) rfl #[.slice Ao12 t461.length co12, .int .i64 (wrap64 (1 + (Go.bits .and .i64 a1 63))), .int .i64 (wrap64 (1 + (Go.bits .and .i64 a2 31)))] rfl (by (try simp only [List.map_toArray, List.map_cons, List.map_nil]); (rfl)) ?_; (with_reducible refine (most_Tight.calls k _ _ t461 (wrap64 (1 + (Go.bits .and .i64 a1 63))) (wrap64 (1 + (Go.bits .and .i64 a2 31))) t464 _ ?side1 ?side2 A7.out).mono ?_); (case side1 => repeat ((exact (Kd.R_reads' HO463.out).2.2))); (case side2 => exact (Kd.R_reads' HO463.out).2.1); rintro e w13 ⟨rfl, hb⟩; refine ⟨_, rfl, ?_⟩; have n0_ := Aside0.mk (Kd.R_below (by exact HO463.out) hb); have n1_ := Aside0.mk (below_step (by repeat ((with_reducible (exact HB.out)))) hb); clear HO463; clear HB; have HO463 := n0_; have HB := n1_; clear n0_ n1_; (try clear hb); (try clear hb2); (try clear hk); (try clear hi)) | ((with_reducible refine gate_callee (f := 34) rfl ?_); refine goesL_ (some 26) rfl rfl Tryz.func34 (by kernel_rfl) rfl #[.slice Ao12 t461.length co12] rfl (by (try simp only [List.map_toArray, List.map_cons, List.map_nil]); (rfl)) ?_; (with_reducible refine (demand_Fits.calls k _ _ t461 true _ ?side1 ?side2 A8.out).mono ?_); (case side1 => repeat ((exact (Kd.R_reads' HO463.out).2.2))); (case side2 => exact (Kd.R_reads' HO463.out).2.1); rintro e w14 ⟨rfl, hb⟩; refine ⟨_, rfl, ?_⟩; have n0_ := Aside0.mk (Kd.R_below (by exact HO463.out) hb); have n1_ := Aside0.mk (below_step (by repeat ((with_reducible (exact HB.out)))) hb); clear HO463; clear HB; have HO463 := n0_; have HB := n1_; clear n0_ n1_; (try clear hb); (try clear hb2); (try clear hk); (try clear hi)))
   go_loopg [9] k (fun kq v9 w' => ∃ (x9_1 : Int), v9 = .int .i64 x9_1 ∧ Aside0 (hortatorlaw9_MostTight.l0 kq t461 (wrap64 (1 + (Go.bits .and .i64 a1 63))) (wrap64 (1 + (Go.bits .and .i64 a2 31))) t464 x9_1 = some r) ∧ Aside0 (kq ≤ k) ∧ Aside0 (Kd.R k31 31 w' w.heap.size (fun _ => True) (.slice Ao12 t461.length co12) t461) ∧ Aside0 (Below w.heap.size w w'))
   case atStart => exact ⟨(1), (by (rfl)), H', ⟨Nat.le_refl _⟩, ⟨by exact HO463.out⟩, ⟨by repeat ((with_reducible (exact HB.out)))⟩⟩
   case round =>
    clear H'
    obtain ⟨x9_1, rfl, HA, HK1, HO_0, HB⟩ := hrel
    cases gk with
    | zero => exact absurd HA.out (by simp [hortatorlaw9_MostTight.l0])
    | succ k1 =>
     have H := HA.out
     clear HA
     simp only [hortatorlaw9_MostTight.l0] at H
     by_cases c15 : x9_1 ≤ t464
     ·rw [if_pos c15] at H
      have c15b0 : decide (x9_1 ≤ t464) = true := decide_eq_true c15
      clear c15
      replace H := Option.bind_eq_some_iff.mp H
      obtain ⟨t473, A160, H⟩ := H
      have A16 := Aside0.mk A160
      clear A160
      by_cases c17 : t473.length < 5864062014805
      ·rw [if_pos c17] at H
       have LMc17 := Aside0.mk c17
       clear c17
       obtain ⟨y476, hy476⟩ : ∃ y_ : List (S31), y_ = (t473 ++ [(⟨x9_1, x9_1, (wrap64 (1 + (Go.bits .and .i64 a1 63)))⟩ : S31)]) := ⟨_, rfl⟩
       replace H : ((demand_Fits.f k1 y476).bind fun t479 => (if t479 = true then (hortatorlaw9_MostTight.l0 k1 t461 (wrap64 (1 + (Go.bits .and .i64 a1 63))) (wrap64 (1 + (Go.bits .and .i64 a2 31))) t464 (wrap64 (x9_1 + 1))) else (none))) = some r := by (rw [hy476]; with_reducible exact H)
       have Ny476 := Aside0.mk hy476
       clear hy476
       replace H := Option.bind_eq_some_iff.mp H
       obtain ⟨t479, A180, H⟩ := H
       have A18 := Aside0.mk A180
       clear A180
       by_cases c19 : t479 = true
       ·subst c19
        have H1 : (hortatorlaw9_MostTight.l0 k1 t461 (wrap64 (1 + (Go.bits .and .i64 a1 63))) (wrap64 (1 + (Go.bits .and .i64 a2 31))) t464 (wrap64 (x9_1 + 1))) = some r := by rw [if_pos rfl] at H; exact H
        clear H
        have H := H1
        clear H1
        have H' := Aside0.mk H
        clear H
        go_wp2_with (first | ((with_reducible refine gate_callee (f := 24) rfl ?_); refine goesL_ (some 36) rfl rfl Tryz.func24 (by kernel_rfl) rfl #[.slice Ao12 t461.length co12] rfl (by (try simp only [List.map_toArray, List.map_cons, List.map_nil]); (rfl)) ?_; (with_reducible refine (hortatorlaw9_Loads.calls _ _ t461 t473 _ ?side1 ?side2 A16.out).mono ?_); (case side1 => repeat ((exact (Kd.R_reads' HO_0.out).2.2))); (case side2 => exact (Kd.R_reads' HO_0.out).2.1); rintro e w20 ⟨v474, rfl, ho0, hb⟩; refine ⟨_, rfl, ?_⟩; have n0_ := Aside0.mk (Kd.R_elder' (by exact HO_0.out) (Kd.R_base ho0) hb); have n1_ := Aside0.mk (Kd.R_lower (Kd.R_new' ho0 (Kd.R_lt (by exact HO_0.out))) (below_size (by repeat ((with_reducible (exact HB.out)))))); have n2_ := Aside0.mk (below_step (by repeat ((with_reducible (exact HB.out)))) hb); clear HO_0; clear HB; have HO_0 := n0_; have HO475 := n1_; have HB := n2_; clear n0_ n1_ n2_; (try clear hb); (try clear hb2); (try clear hk); (try clear hi); (try clear ho0)) | ((with_reducible refine gate_builtin (b := .append) (xs := #[.tmp 36, .tmp 41]) rfl ?_); (try (refine gate_guard (by rfl) ?_; dsimp only)); at_builtin; refine Kd.R_append k31 (w0 := w) w.heap.size rfl (.tmp 36) (.tmp 41) 22 31 (.agg #[(.int .i64 0), (.int .i64 0), (.int .i64 0)]) 24 rfl Tryz.underlying22 info31 rfl (by decide) (by omega) v474 t473 (⟨x9_1, x9_1, (wrap64 (1 + (Go.bits .and .i64 a1 63)))⟩ : S31) [.int .i64 x9_1, .int .i64 x9_1, .int .i64 (wrap64 (1 + (Go.bits .and .i64 a1 63)))] (fun k_ => some k_ ≠ (.slice Ao12 t461.length co12 : Value).ownBlock) (fun _ => False) rfl rfl ?aP (fun _ hk => hk.elim) ?aF ?aO ?aB ?aS ?aL ?_; (case aP => exact k31_mkM _ _ _ (⟨x9_1, x9_1, (wrap64 (1 + (Go.bits .and .i64 a1 63)))⟩ : S31)); (case aB => exact (by repeat ((with_reducible (exact HB.out))))); (case aF => exact (fun k_ hk => Kd.fresh' (Kd.R_lt (by exact HO_0.out)) k_ hk)); (case aO => exact (by exact Kd.R_mono HO475.out (fun _ hk => hk.2))); (case aS => exact (below_size (by repeat ((with_reducible (exact HB.out)))))); (case aL => have := LMc17.out; omega); intro v477 w21 ho hb hg hat; rw [← Ny476.out] at ho; have n0_ := Aside0.mk (Kd.R_after (ok := (fun _ => True)) (by exact HO_0.out) hg hat); have n1_ := Aside0.mk (hb); have n2_ := Aside0.mk (ho); clear HO_0; clear HB; clear HO475; have HO_0 := n0_; have HB := n1_; have HO478 := n2_; clear n0_ n1_ n2_; clear ho hb hg hat; obtain ⟨Ao22, co22, eo22⟩ := Kd.R_slice HO478.out; subst eo22) | ((with_reducible refine gate_callee (f := 34) rfl ?_); refine goesL_ (some 43) rfl rfl Tryz.func34 (by kernel_rfl) rfl #[.slice Ao22 y476.length co22] rfl (by (try simp only [List.map_toArray, List.map_cons, List.map_nil]); (rfl)) ?_; (with_reducible refine (demand_Fits.calls k1 _ _ y476 true _ ?side1 ?side2 A18.out).mono ?_); (case side1 => repeat ((exact (Kd.R_reads' HO478.out).2.2))); (case side2 => exact (Kd.R_reads' HO478.out).2.1); rintro e w23 ⟨rfl, hb⟩; refine ⟨_, rfl, ?_⟩; have n0_ := Aside0.mk (Kd.R_below (by exact HO_0.out) hb); have n1_ := Aside0.mk (Kd.R_below (by exact HO478.out) hb); have n2_ := Aside0.mk (below_step (by repeat ((with_reducible (exact HB.out)))) hb); clear HO_0; clear HO478; clear HB; have HO_0 := n0_; have HO478 := n1_; have HB := n2_; clear n0_ n1_ n2_; (try clear hb); (try clear hb2); (try clear hk); (try clear hi)))
        go_roundg k1
        case measure => have := HK1.out; omega
        case rel => exact ⟨(wrap64 (x9_1 + 1)), (by (rfl)), H', ⟨by have := HK1.out; omega⟩, ⟨by exact Kd.R_mono HO_0.out (fun _ hk => trivial)⟩, ⟨by repeat ((with_reducible (exact HB.out)))⟩⟩
       ·replace c19 := Bool.eq_false_iff.mpr c19
        subst c19
        have H1 : (none) = some r := by rw [if_neg (show ¬ (false = true) by decide)] at H; exact H
        clear H
        have H := H1
        clear H1
        exact absurd H (by simp)
      ·rw [if_neg c17] at H
       exact absurd H (by simp)
     ·rw [if_neg c15] at H
      have c15b0 : decide (x9_1 ≤ t464) = false := decide_eq_false c15
      clear c15
      obtain ⟨ji24, hji24⟩ : ∃ j_ : Int, (mn (wrap64 (1 + (Go.bits .and .i64 a2 31))) (wrap64 (1 + (Go.bits .and .i64 a1 63)))) = j_ := ⟨_, rfl⟩
      replace H : (if t464 = (ji24) then (some true) else ((hortatorlaw9_Loads.f t461).bind fun t466 => (if t466.length < 5864062014805 then ((demand_Fits.f k1 (t466 ++ [(⟨wrap64 (t464 + 1), wrap64 (t464 + 1), (wrap64 (1 + (Go.bits .and .i64 a1 63)))⟩ : S31)])).bind fun t472 => (some (!t472))) else (none)))) = some r := by (rw [hji24] at H; exact H)
      have hji24_ : (if (wrap64 (1 + (Go.bits .and .i64 a1 63))) < (wrap64 (1 + (Go.bits .and .i64 a2 31))) then (wrap64 (1 + (Go.bits .and .i64 a1 63))) else (wrap64 (1 + (Go.bits .and .i64 a2 31)))) = ji24 := hji24
      by_cases c25 : t464 = (ji24)
      ·rw [if_pos c25] at H
       have c25b0 : (t464 == (ji24)) = true := beq_iff_eq.mpr c25
       have c25b1 : (t464 != (ji24)) = false := bne_eq_false_iff_eq.mpr c25
       clear c25
       obtain rfl := Option.some.inj H
       go_wp2
       go_ret
       exact ⟨by (rfl), by repeat ((with_reducible (exact HB.out)))⟩
      ·rw [if_neg c25] at H
       have c25b0 : (t464 == (ji24)) = false := beq_eq_false_iff_ne.mpr c25
       have c25b1 : (t464 != (ji24)) = true := bne_iff_ne.mpr c25
       replace H := Option.bind_eq_some_iff.mp H
       obtain ⟨t466, A260, H⟩ := H
       have A26 := Aside0.mk A260
       clear A260
       by_cases c27 : t466.length < 5864062014805
       ·rw [if_pos c27] at H
        have LMc27 := Aside0.mk c27
        clear c27
        obtain ⟨y469, hy469⟩ : ∃ y_ : List (S31), y_ = (t466 ++ [(⟨wrap64 (t464 + 1), wrap64 (t464 + 1), (wrap64 (1 + (Go.bits .and .i64 a1 63)))⟩ : S31)]) := ⟨_, rfl⟩
        replace H : ((demand_Fits.f k1 y469).bind fun t472 => (some (!t472))) = some r := by (rw [hy469]; with_reducible exact H)
        have Ny469 := Aside0.mk hy469
        clear hy469
        replace H := Option.bind_eq_some_iff.mp H
        obtain ⟨t472, A280, H⟩ := H
        have A28 := Aside0.mk A280
        clear A280
        obtain rfl := Option.some.inj H
        go_wp2_with (first | (go_at_call 24; (with_reducible refine (hortatorlaw9_Loads.calls _ _ t461 t466 _ ?side1 ?side2 A26.out).mono ?_); (case side1 => repeat ((exact (Kd.R_reads' HO_0.out).2.2))); (case side2 => exact (Kd.R_reads' HO_0.out).2.1); rintro e w29 ⟨v467, rfl, ho0, hb⟩; have n0_ := Aside0.mk (Kd.R_elder' (by exact HO_0.out) (Kd.R_base ho0) hb); have n1_ := Aside0.mk (Kd.R_lower (Kd.R_new' ho0 (Kd.R_lt (by exact HO_0.out))) (below_size (by repeat ((with_reducible (exact HB.out)))))); have n2_ := Aside0.mk (below_step (by repeat ((with_reducible (exact HB.out)))) hb); clear HO_0; clear HB; have HO_0 := n0_; have HO468 := n1_; have HB := n2_; clear n0_ n1_ n2_; (try clear hb); (try clear hb2); (try clear hk); (try clear hi); (try clear ho0)) | ((with_reducible refine gate_builtin (b := .append) (xs := #[.tmp 52, .tmp 59]) rfl ?_); (try (refine gate_guard (by rfl) ?_; dsimp only)); at_builtin; refine Kd.R_append k31 (w0 := w) w.heap.size rfl (.tmp 52) (.tmp 59) 22 31 (.agg #[(.int .i64 0), (.int .i64 0), (.int .i64 0)]) 24 rfl Tryz.underlying22 info31 rfl (by decide) (by omega) v467 t466 (⟨wrap64 (t464 + 1), wrap64 (t464 + 1), (wrap64 (1 + (Go.bits .and .i64 a1 63)))⟩ : S31) [.int .i64 (wrap64 (t464 + 1)), .int .i64 (wrap64 (t464 + 1)), .int .i64 (wrap64 (1 + (Go.bits .and .i64 a1 63)))] (fun k_ => some k_ ≠ (.slice Ao12 t461.length co12 : Value).ownBlock) (fun _ => False) rfl rfl ?aP (fun _ hk => hk.elim) ?aF ?aO ?aB ?aS ?aL ?_; (case aP => exact k31_mkM _ _ _ (⟨wrap64 (t464 + 1), wrap64 (t464 + 1), (wrap64 (1 + (Go.bits .and .i64 a1 63)))⟩ : S31)); (case aB => exact (by repeat ((with_reducible (exact HB.out))))); (case aF => exact (fun k_ hk => Kd.fresh' (Kd.R_lt (by exact HO_0.out)) k_ hk)); (case aO => exact (by exact Kd.R_mono HO468.out (fun _ hk => hk.2))); (case aS => exact (below_size (by repeat ((with_reducible (exact HB.out)))))); (case aL => have := LMc27.out; omega); intro v470 w30 ho hb hg hat; rw [← Ny469.out] at ho; have n0_ := Aside0.mk (Kd.R_after (ok := (fun _ => True)) (by exact HO_0.out) hg hat); have n1_ := Aside0.mk (hb); have n2_ := Aside0.mk (ho); clear HO_0; clear HB; clear HO468; have HO_0 := n0_; have HB := n1_; have HO471 := n2_; clear n0_ n1_ n2_; clear ho hb hg hat; obtain ⟨Ao31, co31, eo31⟩ := Kd.R_slice HO471.out; subst eo31) | (go_at_call 34; (with_reducible refine (demand_Fits.calls k1 _ _ y469 t472 _ ?side1 ?side2 A28.out).mono ?_); (case side1 => repeat ((exact (Kd.R_reads' HO471.out).2.2))); (case side2 => exact (Kd.R_reads' HO471.out).2.1); rintro e w32 ⟨rfl, hb⟩; have n0_ := Aside0.mk (Kd.R_below (by exact HO_0.out) hb); have n1_ := Aside0.mk (Kd.R_below (by exact HO471.out) hb); have n2_ := Aside0.mk (below_step (by repeat ((with_reducible (exact HB.out)))) hb); clear HO_0; clear HO471; clear HB; have HO_0 := n0_; have HO471 := n1_; have HB := n2_; clear n0_ n1_ n2_; (try clear hb); (try clear hb2); (try clear hk); (try clear hi)))
        go_ret
        exact ⟨by (rfl), by repeat ((with_reducible (exact HB.out)))⟩
       ·rw [if_neg c27] at H
        exact absurd H (by simp)
  ·replace c9 := Bool.eq_false_iff.mpr c9
   subst c9
   have H1 : (some (t464 == 0)) = some r := by rw [if_neg (show ¬ (false = true) by decide)] at H; exact H
   clear H
   have H := H1
   clear H1
   obtain rfl := Option.some.inj H
   go_enter Tryz.func18, Tryz.ntmps18
   go_wp2_with (first | ((with_reducible refine gate_callee (f := 23) rfl ?_); refine goesL_ (some 10) rfl rfl Tryz.func23 (by kernel_rfl) rfl #[] rfl (by (try simp only [List.map_toArray, List.map_cons, List.map_nil]); (done)) ?_; (with_reducible refine (hortatorlaw9_begun.calls k  true _ A4.out).mono ?_); rintro e w33 ⟨rfl, hb⟩; refine ⟨_, rfl, ?_⟩; have n0_ := Aside0.mk (below_step (by repeat ((with_reducible (exact HB.out)))) hb); clear HB; have HB := n0_; clear n0_; (try clear hb); (try clear hb2); (try clear hk); (try clear hi)) | ((with_reducible refine gate_callee (f := 24) rfl ?_); refine goesL_ (some 14) rfl rfl Tryz.func24 (by kernel_rfl) rfl #[.slice A0 l0.length c0] rfl (by (try simp only [List.map_toArray, List.map_cons, List.map_nil]); (rfl)) ?_; (with_reducible refine (hortatorlaw9_Loads.calls _ _ l0 t461 _ ?side1 ?side2 A6.out).mono ?_); (case side1 => repeat ((exact (Kd.C_below HR0.out HB.out)))); (case side2 => exact HC0.out); rintro e w34 ⟨v462, rfl, ho0, hb⟩; refine ⟨_, rfl, ?_⟩; have n0_ := Aside0.mk (Kd.R_lower ho0 (below_size (by repeat ((with_reducible (exact HB.out)))))); have n1_ := Aside0.mk (below_step (by repeat ((with_reducible (exact HB.out)))) hb); clear HB; have HO463 := n0_; have HB := n1_; clear n0_ n1_; (try clear hb); (try clear hb2); (try clear hk); (try clear hi); (try clear ho0); obtain ⟨Ao35, co35, eo35⟩ := Kd.R_slice HO463.out; subst eo35) | ((with_reducible refine gate_callee (f := 38) rfl ?_); refine goesL_ (some 24) rfl rfl Tryz.func38 (by kernel_rfl) rfl #[.slice Ao35 t461.length co35, .int .i64 (wrap64 (1 + (Go.bits .and .i64 a1 63))), .int .i64 (wrap64 (1 + (Go.bits .and .i64 a2 31)))] rfl (by (try simp only [List.map_toArray, List.map_cons, List.map_nil]); (rfl)) ?_; (with_reducible refine (most_Tight.calls k _ _ t461 (wrap64 (1 + (Go.bits .and .i64 a1 63))) (wrap64 (1 + (Go.bits .and .i64 a2 31))) t464 _ ?side1 ?side2 A7.out).mono ?_); (case side1 => repeat ((exact (Kd.R_reads' HO463.out).2.2))); (case side2 => exact (Kd.R_reads' HO463.out).2.1); rintro e w36 ⟨rfl, hb⟩; refine ⟨_, rfl, ?_⟩; have n0_ := Aside0.mk (Kd.R_below (by exact HO463.out) hb); have n1_ := Aside0.mk (below_step (by repeat ((with_reducible (exact HB.out)))) hb); clear HO463; clear HB; have HO463 := n0_; have HB := n1_; clear n0_ n1_; (try clear hb); (try clear hb2); (try clear hk); (try clear hi)) | ((with_reducible refine gate_callee (f := 34) rfl ?_); refine goesL_ (some 26) rfl rfl Tryz.func34 (by kernel_rfl) rfl #[.slice Ao35 t461.length co35] rfl (by (try simp only [List.map_toArray, List.map_cons, List.map_nil]); (rfl)) ?_; (with_reducible refine (demand_Fits.calls k _ _ t461 false _ ?side1 ?side2 A8.out).mono ?_); (case side1 => repeat ((exact (Kd.R_reads' HO463.out).2.2))); (case side2 => exact (Kd.R_reads' HO463.out).2.1); rintro e w37 ⟨rfl, hb⟩; refine ⟨_, rfl, ?_⟩; have n0_ := Aside0.mk (Kd.R_below (by exact HO463.out) hb); have n1_ := Aside0.mk (below_step (by repeat ((with_reducible (exact HB.out)))) hb); clear HO463; clear HB; have HO463 := n0_; have HB := n1_; clear n0_ n1_; (try clear hb); (try clear hb2); (try clear hk); (try clear hi)))
   go_ret
   exact ⟨by (rfl), by repeat ((with_reducible (exact HB.out)))⟩
 ·replace c5 := Bool.eq_false_iff.mpr c5
  subst c5
  have H1 : (none) = some r := by rw [if_neg (show ¬ (false = true) by decide)] at H; exact H
  clear H
  have H := H1
  clear H1
  exact absurd H (by simp)

end Go.Proofs.YtddepomgaeadpaaGreatDoor.PAll
