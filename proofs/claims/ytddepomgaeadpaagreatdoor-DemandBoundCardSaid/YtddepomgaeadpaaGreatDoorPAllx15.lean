-- Written by a program of this session (wip/pp.py) over the kit's print, with hand-proved contracts beside it.
import Derived.Test.YtddepomgaeadpaaGreatDoorPAllx0
import Derived.Test.YtddepomgaeadpaaGreatDoorPAllx1
import Derived.Test.YtddepomgaeadpaaGreatDoorPAllx2
import Derived.Test.YtddepomgaeadpaaGreatDoorPAllx4
namespace Go.Proofs.YtddepomgaeadpaaGreatDoor.PAll
open Go.Shelf Go.Lib Go.RowKit Go.Proofs.YtddepomgaeadpaaGreatDoorW.PrintWords Go.Proofs.YtddepomgaeadpaaGreatDoorW.PrintLast Go.Proofs.YtddepomgaeadpaaGreatDoorW.PrintMore
attribute [local go_sem] max2_int min2_int max_two min_two max_three min_three max_four min_four   -- for this text's walks alone
set_option linter.unusedVariables false
set_option linter.unusedSimpArgs false

/-! ### hortatorlaw9_DemandBound: function 15 -/
def hortatorlaw9_DemandBound.j0 : Nat → List (S31) → Int → Bool → Option (Bool)
 | 0, _, _, _ => none
 | k + 1, x0, x1, x21 => if x21 = true then (some true) else ((demand_Bound.f x0 x1).bind fun t424 => ((busy_Asked.f k x0 x1).bind fun t425 => (if t424 ≤ t425 then ((demand_Bound.f x0 x1).bind fun t426 => ((demand_Bound.f x0 (wrap64 (x1 + 1))).bind fun t427 => (if t426 ≤ t427 then ((busy_Asked.f k x0 x1).bind fun t428 => ((busy_Asked.f k x0 (wrap64 (x1 + 1))).bind fun t429 => (some (decide (t428 ≤ t429))))) else (none)))) else (none))))
def hortatorlaw9_DemandBound.f (k : Nat) (l0 : List (S31)) (a1 : Int) : Option (Bool) := (hortatorlaw9_begun.f k).bind fun t419 => (if t419 = true then ((hortatorlaw9_Loads.f l0).bind fun t420 => (if a1 < 0 then (hortatorlaw9_DemandBound.j0 k t420 a1 true) else (if a1 > 19999 then (hortatorlaw9_DemandBound.j0 k t420 a1 true) else ((hortatorref7_Loads.f k t420).bind fun t423 => (hortatorlaw9_DemandBound.j0 k t420 a1 (!t423)))))) else (none))
set_option maxHeartbeats 8000000 in
set_option maxRecDepth 100000 in
theorem hortatorlaw9_DemandBound.calls (k : Nat) (A0 : Option Addr) (c0 : Nat) (l0 : List (S31)) (a1 : Int) (r : Bool) (w : World) (hr0 : Kd.C k31 w A0 l0.length l0) (hc0 : l0.length ≤ c0) (h : hortatorlaw9_DemandBound.f k l0 a1 = some r) :
  Calls Tryz.prog 15 #[.slice A0 l0.length c0, .int .i64 a1] w fun e w' => e = .returned (.bool r) ∧ Below w.heap.size w w' := by
 have HR0 := Aside0.mk hr0
 have HC0 := Aside0.mk hc0
 clear hr0 hc0
 have HB := Aside0.mk (Below.refl w.heap.size w)
 have H : ((hortatorlaw9_begun.f k).bind fun t419 => (if t419 = true then ((hortatorlaw9_Loads.f l0).bind fun t420 => (if a1 < 0 then (hortatorlaw9_DemandBound.j0 k t420 a1 true) else (if a1 > 19999 then (hortatorlaw9_DemandBound.j0 k t420 a1 true) else ((hortatorref7_Loads.f k t420).bind fun t423 => (hortatorlaw9_DemandBound.j0 k t420 a1 (!t423)))))) else (none))) = some r := h
 clear h
 replace H := Option.bind_eq_some_iff.mp H
 obtain ⟨t419, A30, H⟩ := H
 have A3 := Aside0.mk A30
 clear A30
 by_cases c4 : t419 = true
 ·subst c4
  have H1 : ((hortatorlaw9_Loads.f l0).bind fun t420 => (if a1 < 0 then (hortatorlaw9_DemandBound.j0 k t420 a1 true) else (if a1 > 19999 then (hortatorlaw9_DemandBound.j0 k t420 a1 true) else ((hortatorref7_Loads.f k t420).bind fun t423 => (hortatorlaw9_DemandBound.j0 k t420 a1 (!t423)))))) = some r := by rw [if_pos rfl] at H; exact H
  clear H
  have H := H1
  clear H1
  replace H := Option.bind_eq_some_iff.mp H
  obtain ⟨t420, A50, H⟩ := H
  have A5 := Aside0.mk A50
  clear A50
  have HC6 := Aside0.mk H
  clear H
  go_enter Tryz.func15, Tryz.ntmps15
  go_upto_region 5 with (first | ((with_reducible refine gate_callee (f := 23) rfl ?_); refine goesL_ (some 6) rfl rfl Tryz.func23 (by kernel_rfl) rfl #[] rfl (by (try simp only [List.map_toArray, List.map_cons, List.map_nil]); (done)) ?_; (with_reducible refine (hortatorlaw9_begun.calls k  true _ A3.out).mono ?_); rintro e w7 ⟨rfl, hb⟩; refine ⟨_, rfl, ?_⟩; have n0_ := Aside0.mk (below_step (by repeat ((with_reducible (exact HB.out)))) hb); clear HB; have HB := n0_; clear n0_; (try clear hb); (try clear hb2); (try clear hk); (try clear hi)) | ((with_reducible refine gate_callee (f := 24) rfl ?_); refine goesL_ (some 10) rfl rfl Tryz.func24 (by kernel_rfl) rfl #[.slice A0 l0.length c0] rfl (by (try simp only [List.map_toArray, List.map_cons, List.map_nil]); (rfl)) ?_; (with_reducible refine (hortatorlaw9_Loads.calls _ _ l0 t420 _ ?side1 ?side2 A5.out).mono ?_); (case side1 => repeat ((exact (Kd.C_below HR0.out HB.out)))); (case side2 => exact HC0.out); rintro e w8 ⟨v421, rfl, ho0, hb⟩; refine ⟨_, rfl, ?_⟩; have n0_ := Aside0.mk (Kd.R_lower ho0 (below_size (by repeat ((with_reducible (exact HB.out)))))); have n1_ := Aside0.mk (below_step (by repeat ((with_reducible (exact HB.out)))) hb); clear HB; have HO422 := n0_; have HB := n1_; clear n0_ n1_; (try clear hb); (try clear hb2); (try clear hk); (try clear hi); (try clear ho0)))
  (try simp only [Act.put, List.setIfInBounds_toArray, List.set_cons_zero, List.set_cons_succ])
  go_cut [21] (fun v21 wc => ∃ (kq : Nat) (x21_5 : Bool), v21 = .bool x21_5 ∧ Aside0 (hortatorlaw9_DemandBound.j0 kq t420 a1 x21_5 = some r) ∧ Aside0 (kq ≤ k) ∧ Aside0 (Kd.R k31 31 wc w.heap.size (fun _ => True) v421 t420) ∧ Aside0 (Below w.heap.size w wc))
  case first =>
   have H := HC6.out
   clear HC6
   by_cases c9 : a1 < 0
   ·rw [if_pos c9] at H
    have c9b0 : decide (a1 < 0) = true := decide_eq_true c9
    clear c9
    ((skip))
    have H' := Aside0.mk H
    clear H
    go_wp2
    go_meet
    case rel => exact ⟨_, (true), (by (rfl)), H', ⟨by (omega)⟩, ⟨by exact HO422.out⟩, ⟨by repeat ((with_reducible (exact HB.out)))⟩⟩
   ·rw [if_neg c9] at H
    have c9b0 : decide (a1 < 0) = false := decide_eq_false c9
    clear c9
    ((skip))
    by_cases c10 : a1 > 19999
    ·rw [if_pos c10] at H
     have c10b0 : decide (19999 < a1) = true := decide_eq_true c10
     clear c10
     have H' := Aside0.mk H
     clear H
     go_wp2
     go_meet
     case rel => exact ⟨_, (true), (by (rfl)), H', ⟨by (omega)⟩, ⟨by exact HO422.out⟩, ⟨by repeat ((with_reducible (exact HB.out)))⟩⟩
    ·rw [if_neg c10] at H
     have c10b0 : decide (19999 < a1) = false := decide_eq_false c10
     clear c10
     replace H := Option.bind_eq_some_iff.mp H
     obtain ⟨t423, A110, H⟩ := H
     have A11 := Aside0.mk A110
     clear A110
     have H' := Aside0.mk H
     clear H
     obtain ⟨Ao12, co12, eo12⟩ := Kd.R_slice HO422.out
     subst eo12
     go_wp2_with ((go_at_call 29; (with_reducible refine (hortatorref7_Loads.calls k _ _ t420 t423 _ ?side1 ?side2 A11.out).mono ?_); (case side1 => repeat ((exact (Kd.R_reads' HO422.out).2.2))); (case side2 => exact (Kd.R_reads' HO422.out).2.1); rintro e w13 ⟨rfl, hb⟩; have n0_ := Aside0.mk (Kd.R_below (by exact HO422.out) hb); have n1_ := Aside0.mk (below_step (by repeat ((with_reducible (exact HB.out)))) hb); clear HO422; clear HB; have HO422 := n0_; have HB := n1_; clear n0_ n1_; (try clear hb); (try clear hb2); (try clear hk); (try clear hi)))
     go_meet
     case rel => exact ⟨_, (!t423), (by (rfl)), H', ⟨by (omega)⟩, ⟨by exact HO422.out⟩, ⟨by repeat ((with_reducible (exact HB.out)))⟩⟩
  case rest =>
   clear HC6
   obtain ⟨kq, x21_5, rfl, HA, HJ5, HO_0, HB⟩ := hcut
   cases kq with
   | zero => exact absurd HA.out (by simp [hortatorlaw9_DemandBound.j0])
   | succ kj5 =>
    have H := HA.out
    clear HA
    simp only [hortatorlaw9_DemandBound.j0] at H
    by_cases c14 : x21_5 = true
    ·subst c14
     have H1 : (some true) = some r := by rw [if_pos rfl] at H; exact H
     clear H
     have H := H1
     clear H1
     obtain rfl := Option.some.inj H
     go_wp2
     go_ret
     exact ⟨by (rfl), by repeat ((with_reducible (exact HB.out)))⟩
    ·replace c14 := Bool.eq_false_iff.mpr c14
     subst c14
     have H1 : ((demand_Bound.f t420 a1).bind fun t424 => ((busy_Asked.f kj5 t420 a1).bind fun t425 => (if t424 ≤ t425 then ((demand_Bound.f t420 a1).bind fun t426 => ((demand_Bound.f t420 (wrap64 (a1 + 1))).bind fun t427 => (if t426 ≤ t427 then ((busy_Asked.f kj5 t420 a1).bind fun t428 => ((busy_Asked.f kj5 t420 (wrap64 (a1 + 1))).bind fun t429 => (some (decide (t428 ≤ t429))))) else (none)))) else (none)))) = some r := by rw [if_neg (show ¬ (false = true) by decide)] at H; exact H
     clear H
     have H := H1
     clear H1
     replace H := Option.bind_eq_some_iff.mp H
     obtain ⟨t424, A150, H⟩ := H
     have A15 := Aside0.mk A150
     clear A150
     replace H := Option.bind_eq_some_iff.mp H
     obtain ⟨t425, A160, H⟩ := H
     have A16 := Aside0.mk A160
     clear A160
     by_cases c17 : t424 ≤ t425
     ·rw [if_pos c17] at H
      have c17b0 : decide (t424 ≤ t425) = true := decide_eq_true c17
      clear c17
      replace H := Option.bind_eq_some_iff.mp H
      obtain ⟨t426, A180, H⟩ := H
      have A18 := Aside0.mk A180
      clear A180
      replace H := Option.bind_eq_some_iff.mp H
      obtain ⟨t427, A190, H⟩ := H
      have A19 := Aside0.mk A190
      clear A190
      by_cases c20 : t426 ≤ t427
      ·rw [if_pos c20] at H
       have c20b0 : decide (t426 ≤ t427) = true := decide_eq_true c20
       clear c20
       replace H := Option.bind_eq_some_iff.mp H
       obtain ⟨t428, A210, H⟩ := H
       have A21 := Aside0.mk A210
       clear A210
       replace H := Option.bind_eq_some_iff.mp H
       obtain ⟨t429, A220, H⟩ := H
       have A22 := Aside0.mk A220
       clear A220
       obtain rfl := Option.some.inj H
       obtain ⟨Ao23, co23, eo23⟩ := Kd.R_slice HO_0.out
       subst eo23
       go_wp2_with (first | ((with_reducible refine gate_callee (f := 32) rfl ?_); refine goesL_ (some 24) rfl rfl Tryz.func32 (by kernel_rfl) rfl #[.slice Ao23 t420.length co23, .int .i64 a1] rfl (by (try simp only [List.map_toArray, List.map_cons, List.map_nil]); (rfl)) ?_; (with_reducible refine (demand_Bound.calls _ _ t420 a1 t424 _ ?side1 ?side2 A15.out).mono ?_); (case side1 => repeat ((exact (Kd.R_reads' HO_0.out).2.2))); (case side2 => exact (Kd.R_reads' HO_0.out).2.1); rintro e w24 ⟨rfl, hb⟩; refine ⟨_, rfl, ?_⟩; have n0_ := Aside0.mk (Kd.R_below (by exact HO_0.out) hb); have n1_ := Aside0.mk (below_step (by repeat ((with_reducible (exact HB.out)))) hb); clear HO_0; clear HB; have HO_0 := n0_; have HB := n1_; clear n0_ n1_; (try clear hb); (try clear hb2); (try clear hk); (try clear hi)) | ((with_reducible refine gate_callee (f := 27) rfl ?_); refine goesL_ (some 27) rfl rfl Tryz.func27 (by kernel_rfl) rfl #[.slice Ao23 t420.length co23, .int .i64 a1] rfl (by (try simp only [List.map_toArray, List.map_cons, List.map_nil]); (rfl)) ?_; (with_reducible refine (busy_Asked.calls kj5 _ _ t420 a1 t425 _ ?side1 ?side2 A16.out).mono ?_); (case side1 => repeat ((exact (Kd.R_reads' HO_0.out).2.2))); (case side2 => exact (Kd.R_reads' HO_0.out).2.1); rintro e w25 ⟨rfl, hb⟩; refine ⟨_, rfl, ?_⟩; have n0_ := Aside0.mk (Kd.R_below (by exact HO_0.out) hb); have n1_ := Aside0.mk (below_step (by repeat ((with_reducible (exact HB.out)))) hb); clear HO_0; clear HB; have HO_0 := n0_; have HB := n1_; clear n0_ n1_; (try clear hb); (try clear hb2); (try clear hk); (try clear hi)) | (go_at_call 32; (with_reducible refine (demand_Bound.calls _ _ t420 a1 t426 _ ?side1 ?side2 A18.out).mono ?_); (case side1 => repeat ((exact (Kd.R_reads' HO_0.out).2.2))); (case side2 => exact (Kd.R_reads' HO_0.out).2.1); rintro e w26 ⟨rfl, hb⟩; have n0_ := Aside0.mk (Kd.R_below (by exact HO_0.out) hb); have n1_ := Aside0.mk (below_step (by repeat ((with_reducible (exact HB.out)))) hb); clear HO_0; clear HB; have HO_0 := n0_; have HB := n1_; clear n0_ n1_; (try clear hb); (try clear hb2); (try clear hk); (try clear hi)) | (go_at_call 32; (with_reducible refine (demand_Bound.calls _ _ t420 (wrap64 (a1 + 1)) t427 _ ?side1 ?side2 A19.out).mono ?_); (case side1 => repeat ((exact (Kd.R_reads' HO_0.out).2.2))); (case side2 => exact (Kd.R_reads' HO_0.out).2.1); rintro e w27 ⟨rfl, hb⟩; have n0_ := Aside0.mk (Kd.R_below (by exact HO_0.out) hb); have n1_ := Aside0.mk (below_step (by repeat ((with_reducible (exact HB.out)))) hb); clear HO_0; clear HB; have HO_0 := n0_; have HB := n1_; clear n0_ n1_; (try clear hb); (try clear hb2); (try clear hk); (try clear hi)) | (go_at_call 27; (with_reducible refine (busy_Asked.calls kj5 _ _ t420 a1 t428 _ ?side1 ?side2 A21.out).mono ?_); (case side1 => repeat ((exact (Kd.R_reads' HO_0.out).2.2))); (case side2 => exact (Kd.R_reads' HO_0.out).2.1); rintro e w28 ⟨rfl, hb⟩; have n0_ := Aside0.mk (Kd.R_below (by exact HO_0.out) hb); have n1_ := Aside0.mk (below_step (by repeat ((with_reducible (exact HB.out)))) hb); clear HO_0; clear HB; have HO_0 := n0_; have HB := n1_; clear n0_ n1_; (try clear hb); (try clear hb2); (try clear hk); (try clear hi)) | (go_at_call 27; (with_reducible refine (busy_Asked.calls kj5 _ _ t420 (wrap64 (a1 + 1)) t429 _ ?side1 ?side2 A22.out).mono ?_); (case side1 => repeat ((exact (Kd.R_reads' HO_0.out).2.2))); (case side2 => exact (Kd.R_reads' HO_0.out).2.1); rintro e w29 ⟨rfl, hb⟩; have n0_ := Aside0.mk (Kd.R_below (by exact HO_0.out) hb); have n1_ := Aside0.mk (below_step (by repeat ((with_reducible (exact HB.out)))) hb); clear HO_0; clear HB; have HO_0 := n0_; have HB := n1_; clear n0_ n1_; (try clear hb); (try clear hb2); (try clear hk); (try clear hi)))
       go_ret
       exact ⟨by (rfl), by repeat ((with_reducible (exact HB.out)))⟩
      ·rw [if_neg c20] at H
       exact absurd H (by simp)
     ·rw [if_neg c17] at H
      exact absurd H (by simp)
 ·replace c4 := Bool.eq_false_iff.mpr c4
  subst c4
  have H1 : (none) = some r := by rw [if_neg (show ¬ (false = true) by decide)] at H; exact H
  clear H
  have H := H1
  clear H1
  exact absurd H (by simp)

/-! ### hortatorlaw9_b2i: function 40 -/
def hortatorlaw9_b2i.f (a0 : Bool) : Option (Int) := if a0 = true then (some 1) else (some 0)
set_option maxHeartbeats 8000000 in
set_option maxRecDepth 100000 in
theorem hortatorlaw9_b2i.calls (a0 : Bool) (r : Int) (w : World) (h : hortatorlaw9_b2i.f a0 = some r) :
  Calls Tryz.prog 40 #[.bool a0] w fun e w' => e = .returned (.int .i64 r) ∧ Drawn0 w w' := by
 have H : (if a0 = true then (some 1) else (some 0)) = some r := h
 clear h
 by_cases c2 : a0 = true
 ·subst c2
  have H1 : (some 1) = some r := by rw [if_pos rfl] at H; exact H
  clear H
  have H := H1
  clear H1
  obtain rfl := Option.some.inj H
  go_enter Tryz.func40, Tryz.ntmps40
  go_wp2
  go_ret
  exact ⟨by (rfl), by repeat ((exact Drawn0.refl _))⟩
 ·replace c2 := Bool.eq_false_iff.mpr c2
  subst c2
  have H1 : (some 0) = some r := by rw [if_neg (show ¬ (false = true) by decide)] at H; exact H
  clear H
  have H := H1
  clear H1
  obtain rfl := Option.some.inj H
  go_enter Tryz.func40, Tryz.ntmps40
  go_wp2
  go_ret
  exact ⟨by (rfl), by repeat ((exact Drawn0.refl _))⟩

/-! ### hortatorlaw9_DemandNone: function 16 -/
mutual
def hortatorlaw9_DemandNone.l0 : Nat → Int → List (S31) → Int → Int → Int → Int → Option (Bool)
 | 0, _, _, _, _, _, _ => none
 | k + 1, x1, x6, x7, x431000, x431001, x431002 => if x7 < x1 then (if x6.length < 5864062014805 then (hortatorlaw9_DemandNone.l0 k x1 (x6 ++ [(⟨1, 200, 200⟩ : S31)]) (wrap64 (x7 + 1)) x431000 x431001 x431002) else (none)) else ((demand_Fits.f k x6).bind fun t435 => (if (t435 != (decide (x1 ≤ 24))) = true then (hortatorlaw9_DemandNone.j1 k true x431000 x431001 x431002) else ((busy_Asked.f k x6 1).bind fun t436 => ((hortatorlaw9_b2i.f (decide (x1 ≤ 24))).bind fun t437 => (hortatorlaw9_DemandNone.j1 k (t436 != (wrap64 (x1 * t437))) x431000 x431001 x431002)))))
def hortatorlaw9_DemandNone.j1 : Nat → Bool → Int → Int → Int → Option (Bool)
 | 0, _, _, _, _ => none
 | k + 1, x40, x431000, x431001, x431002 => if x40 = true then (none) else ((hortatorref7_Load.f x431000 x431001 x431002).bind fun t438 => (if t438 = true then (some true) else ((busy_Time.f k (([(⟨x431000, x431001, x431002⟩ : S31)] : List (S31)))).bind fun bt442 => ((demand_Fits.f k (([(⟨x431000, x431001, x431002⟩ : S31)] : List (S31)))).bind fun t447 => (if t447 = true then (none) else (if bt442.2 = true then (none) else ((busy_Asked.f k (([(⟨x431000, x431001, x431002⟩ : S31)] : List (S31))) 5).bind fun t451 => (if t451 = 0 then ((demand_Bound.f (([(⟨x431000, x431001, x431002⟩ : S31)] : List (S31))) 5).bind fun t455 => (some (t455 == 0))) else (none)))))))))
end
def hortatorlaw9_DemandNone.f (k : Nat) (a0_0 : Int) (a0_1 : Int) (a0_2 : Int) (a1 : Int) : Option (Bool) := (hortatorlaw9_begun.f k).bind fun t431 => (if t431 = true then (hortatorlaw9_DemandNone.l0 k (Int.tmod (wrap64 ((Int.tmod a1 30) + 30)) 30) ([] : List (S31)) 0 a0_0 a0_1 a0_2) else (none))
set_option maxHeartbeats 8000000 in
set_option maxRecDepth 100000 in
theorem hortatorlaw9_DemandNone.calls (k : Nat) (a0_0 : Int) (a0_1 : Int) (a0_2 : Int) (a1 : Int) (r : Bool) (w : World) (h : hortatorlaw9_DemandNone.f k a0_0 a0_1 a0_2 a1 = some r) :
  Calls Tryz.prog 16 #[.agg #[.int .i64 a0_0, .int .i64 a0_1, .int .i64 a0_2], .int .i64 a1] w fun e w' => e = .returned (.bool r) ∧ Below w.heap.size w w' := by
 have hu31 := Tryz.underlying31
 have HB := Aside0.mk (Below.refl w.heap.size w)
 have H : ((hortatorlaw9_begun.f k).bind fun t431 => (if t431 = true then (hortatorlaw9_DemandNone.l0 k (Int.tmod (wrap64 ((Int.tmod a1 30) + 30)) 30) ([] : List (S31)) 0 a0_0 a0_1 a0_2) else (none))) = some r := h
 clear h
 replace H := Option.bind_eq_some_iff.mp H
 obtain ⟨t431, A30, H⟩ := H
 have A3 := Aside0.mk A30
 clear A30
 by_cases c4 : t431 = true
 ·subst c4
  have H1 : (hortatorlaw9_DemandNone.l0 k (Int.tmod (wrap64 ((Int.tmod a1 30) + 30)) 30) ([] : List (S31)) 0 a0_0 a0_1 a0_2) = some r := by rw [if_pos rfl] at H; exact H
  clear H
  have H := H1
  clear H1
  have H' := Aside0.mk H
  clear H
  go_enter Tryz.func16, Tryz.ntmps16
  go_wp2_with (first | ((with_reducible refine gate_dst (N := 2) rfl ?_); (try (refine gate_guard (by rfl) ?_; dsimp only)); refine box_event ?hg (N := 2) ?hd (cs := #[.int .i64 a0_0, .int .i64 a0_1, .int .i64 a0_2]) (t := 31) ?hr ?_; (case hd => rfl); (case hg => rfl); (case hr => (go_simp; done)); intro gb430 hg w5 hbox hb; have n0_ := Aside0.mk (below_step (by repeat ((with_reducible (exact HB.out)))) hb); have n1_ := Aside0.mk (hbox); have n2_ := Aside0.mk ((by rw [hg]; exact (below_size (by repeat ((with_reducible (exact HB.out))))) : w.heap.size ≤ gb430)); have n3_ := Aside0.mk ((by rw [hg]; exact (below_size (by repeat ((with_reducible (exact HB.out))))) : w.heap.size ≤ gb430)); clear HB; have HB := n0_; have BK430 := n1_; have GW430 := n2_; have GE430 := n3_; clear n0_ n1_ n2_ n3_; clear hb hbox hg) | ((with_reducible refine gate_callee (f := 23) rfl ?_); refine goesL_ (some 10) rfl rfl Tryz.func23 (by kernel_rfl) rfl #[] rfl (by (try simp only [List.map_toArray, List.map_cons, List.map_nil]); (done)) ?_; (with_reducible refine (hortatorlaw9_begun.calls k  true _ A3.out).mono ?_); rintro e w6 ⟨rfl, hb⟩; refine ⟨_, rfl, ?_⟩; have n0_ := Aside0.mk (blk_below (g := gb430) (o := .cells #[.int .i64 a0_0, .int .i64 a0_1, .int .i64 a0_2] 31 (0, 0)) (by exact BK430.out) hb); have n1_ := Aside0.mk (below_step (by repeat ((with_reducible (exact HB.out)))) hb); clear BK430; clear HB; have BK430 := n0_; have HB := n1_; clear n0_ n1_; (try clear hb); (try clear hb2); (try clear hk); (try clear hi)))
  go_loopg [6, 7] k (fun kq v6 v7 w' => ∃ (x6_1 : List (S31)) (x7_1 : Int), v7 = .int .i64 x7_1 ∧ Aside0 (hortatorlaw9_DemandNone.l0 kq (Int.tmod (wrap64 ((Int.tmod a1 30) + 30)) 30) x6_1 x7_1 a0_0 a0_1 a0_2 = some r) ∧ Aside0 (kq ≤ k) ∧ Aside0 (Kd.R k31 31 w' w.heap.size (fun k_ => k_ ≠ gb430) v6 x6_1) ∧ Aside0 (w'.heap[gb430]? = some (.cells #[.int .i64 a0_0, .int .i64 a0_1, .int .i64 a0_2] 31 (0, 0))) ∧ Aside0 (Below w.heap.size w w'))
  case atStart => exact ⟨(([] : List (S31))), (0), (by (rfl)), H', ⟨Nat.le_refl _⟩, ⟨by (exact Kd.R_nil _ _ _ _ _)⟩, ⟨by exact BK430.out⟩, ⟨by repeat ((with_reducible (exact HB.out)))⟩⟩
  case round =>
   clear H'
   obtain ⟨x6_1, x7_1, rfl, HA, HK1, HO_6, BK430, HB⟩ := hrel
   cases gk with
   | zero => exact absurd HA.out (by simp [hortatorlaw9_DemandNone.l0])
   | succ k1 =>
    have H := HA.out
    clear HA
    simp only [hortatorlaw9_DemandNone.l0] at H
    by_cases c7 : x7_1 < (Int.tmod (wrap64 ((Int.tmod a1 30) + 30)) 30)
    ·rw [if_pos c7] at H
     have c7b0 : decide (x7_1 < (Int.tmod (wrap64 ((Int.tmod a1 30) + 30)) 30)) = true := decide_eq_true c7
     clear c7
     by_cases c8 : x6_1.length < 5864062014805
     ·rw [if_pos c8] at H
      have LMc8 := Aside0.mk c8
      clear c8
      obtain ⟨y432, hy432⟩ : ∃ y_ : List (S31), y_ = (x6_1 ++ [(⟨1, 200, 200⟩ : S31)]) := ⟨_, rfl⟩
      replace H : (hortatorlaw9_DemandNone.l0 k1 (Int.tmod (wrap64 ((Int.tmod a1 30) + 30)) 30) y432 (wrap64 (x7_1 + 1)) a0_0 a0_1 a0_2) = some r := by (rw [hy432]; with_reducible exact H)
      have Ny432 := Aside0.mk hy432
      clear hy432
      have H' := Aside0.mk H
      clear H
      go_wp2_with (((with_reducible refine gate_builtin (b := .append) (xs := #[.tmp 22, .tmp 24]) rfl ?_); (try (refine gate_guard (by rfl) ?_; dsimp only)); at_builtin; refine Kd.R_append k31 (w0 := w) w.heap.size rfl (.tmp 22) (.tmp 24) 22 31 (.agg #[(.int .i64 0), (.int .i64 0), (.int .i64 0)]) 24 rfl Tryz.underlying22 info31 rfl (by decide) (by omega) u6 x6_1 (⟨1, 200, 200⟩ : S31) [.int .i64 1, .int .i64 200, .int .i64 200] (fun k_ => k_ ≠ gb430) (fun _ => False) rfl rfl ?aP (fun _ hk => hk.elim) ?aF ?aO ?aB ?aS ?aL ?_; (case aP => exact k31_mkM _ _ _ (⟨1, 200, 200⟩ : S31)); (case aB => exact (by repeat ((with_reducible (exact HB.out))))); (case aF => exact (fun k_ hk => Kd.freshB (g := gb430) (o := .cells #[.int .i64 a0_0, .int .i64 a0_1, .int .i64 a0_2] 31 (0, 0)) (by exact BK430.out) k_ hk)); (case aO => exact (by exact HO_6.out)); (case aS => exact (below_size (by repeat ((with_reducible (exact HB.out)))))); (case aL => have := LMc8.out; omega); intro v433 w9 ho hb hg hat; rw [← Ny432.out] at ho; have n0_ := Aside0.mk (blk_grown (g := gb430) (o := .cells #[.int .i64 a0_0, .int .i64 a0_1, .int .i64 a0_2] 31 (0, 0)) (by exact BK430.out) hg (Kd.R_away HO_6.out (fun _ hk => hk))); have n1_ := Aside0.mk (hb); have n2_ := Aside0.mk (ho); clear BK430; clear HB; clear HO_6; have BK430 := n0_; have HB := n1_; have HO434 := n2_; clear n0_ n1_ n2_; clear ho hb hg hat))
      go_roundg k1
      case measure => have := HK1.out; omega
      case rel => exact ⟨(y432), (wrap64 (x7_1 + 1)), (by (rfl)), H', ⟨by have := HK1.out; omega⟩, ⟨by exact HO434.out⟩, ⟨by exact BK430.out⟩, ⟨by repeat ((with_reducible (exact HB.out)))⟩⟩
     ·rw [if_neg c8] at H
      exact absurd H (by simp)
    ·rw [if_neg c7] at H
     have c7b0 : decide (x7_1 < (Int.tmod (wrap64 ((Int.tmod a1 30) + 30)) 30)) = false := decide_eq_false c7
     clear c7
     have HC10 := Aside0.mk H
     clear H
     go_upto_region 10 with (fail)
     go_cut [40] (fun v40 wc => ∃ (kq : Nat) (x40_9 : Bool), v40 = .bool x40_9 ∧ Aside0 (hortatorlaw9_DemandNone.j1 kq x40_9 a0_0 a0_1 a0_2 = some r) ∧ Aside0 (kq ≤ k1) ∧ Aside0 (wc.heap[gb430]? = some (.cells #[.int .i64 a0_0, .int .i64 a0_1, .int .i64 a0_2] 31 (0, 0))) ∧ Aside0 (Below w.heap.size w wc))
     case first =>
      have H := HC10.out
      clear HC10
      replace H := Option.bind_eq_some_iff.mp H
      obtain ⟨t435, A110, H⟩ := H
      have A11 := Aside0.mk A110
      clear A110
      by_cases c12 : (t435 != (decide ((Int.tmod (wrap64 ((Int.tmod a1 30) + 30)) 30) ≤ 24))) = true
      ·rw [if_pos c12] at H
       have c12b0 : (t435 != (decide ((Int.tmod (wrap64 ((Int.tmod a1 30) + 30)) 30) ≤ 24))) = true := c12
       (try (have c12b1 : decide (t435 = (decide ((Int.tmod (wrap64 ((Int.tmod a1 30) + 30)) 30) ≤ 24))) = false := by simpa using c12))
       (try (have c12b2 : (t435 == (decide ((Int.tmod (wrap64 ((Int.tmod a1 30) + 30)) 30) ≤ 24))) = false := by simpa using c12))
       (try (have c12b3 : ¬ (t435 = (decide ((Int.tmod (wrap64 ((Int.tmod a1 30) + 30)) 30) ≤ 24))) := by simpa using c12))
       clear c12
       ((skip))
       have H' := Aside0.mk H
       clear H
       obtain ⟨Ao13, co13, eo13⟩ := Kd.R_slice HO_6.out
       subst eo13
       go_wp2_with (((with_reducible refine gate_callee (f := 34) rfl ?_); refine goesL_ (some 27) rfl rfl Tryz.func34 (by kernel_rfl) rfl #[.slice Ao13 x6_1.length co13] rfl (by (try simp only [List.map_toArray, List.map_cons, List.map_nil]); (rfl)) ?_; (with_reducible refine (demand_Fits.calls k1 _ _ x6_1 t435 _ ?side1 ?side2 A11.out).mono ?_); (case side1 => repeat ((exact (Kd.R_reads' HO_6.out).2.2))); (case side2 => exact (Kd.R_reads' HO_6.out).2.1); rintro e w14 ⟨rfl, hb⟩; refine ⟨_, rfl, ?_⟩; have n0_ := Aside0.mk (Kd.R_below (by exact HO_6.out) hb); have n1_ := Aside0.mk (blk_below (g := gb430) (o := .cells #[.int .i64 a0_0, .int .i64 a0_1, .int .i64 a0_2] 31 (0, 0)) (by exact BK430.out) hb); have n2_ := Aside0.mk (below_step (by repeat ((with_reducible (exact HB.out)))) hb); clear HO_6; clear BK430; clear HB; have HO_6 := n0_; have BK430 := n1_; have HB := n2_; clear n0_ n1_ n2_; (try clear hb); (try clear hb2); (try clear hk); (try clear hi)))
       go_meet
       case rel => exact ⟨_, (true), (by (rfl)), H', ⟨by have := HK1.out; (omega)⟩, ⟨by exact BK430.out⟩, ⟨by repeat ((with_reducible (exact HB.out)))⟩⟩
      ·rw [if_neg c12] at H
       have c12b0 : (t435 != (decide ((Int.tmod (wrap64 ((Int.tmod a1 30) + 30)) 30) ≤ 24))) = false := by simpa using c12
       (try (have c12b1 : decide (t435 = (decide ((Int.tmod (wrap64 ((Int.tmod a1 30) + 30)) 30) ≤ 24))) = true := by simpa using c12))
       (try (have c12b2 : (t435 == (decide ((Int.tmod (wrap64 ((Int.tmod a1 30) + 30)) 30) ≤ 24))) = true := by simpa using c12))
       clear c12
       ((skip))
       replace H := Option.bind_eq_some_iff.mp H
       obtain ⟨t436, A150, H⟩ := H
       have A15 := Aside0.mk A150
       clear A150
       replace H := Option.bind_eq_some_iff.mp H
       obtain ⟨t437, A160, H⟩ := H
       have A16 := Aside0.mk A160
       clear A160
       have H' := Aside0.mk H
       clear H
       obtain ⟨Ao17, co17, eo17⟩ := Kd.R_slice HO_6.out
       subst eo17
       go_wp2_with (first | ((with_reducible refine gate_callee (f := 34) rfl ?_); refine goesL_ (some 27) rfl rfl Tryz.func34 (by kernel_rfl) rfl #[.slice Ao17 x6_1.length co17] rfl (by (try simp only [List.map_toArray, List.map_cons, List.map_nil]); (rfl)) ?_; (with_reducible refine (demand_Fits.calls k1 _ _ x6_1 t435 _ ?side1 ?side2 A11.out).mono ?_); (case side1 => repeat ((exact (Kd.R_reads' HO_6.out).2.2))); (case side2 => exact (Kd.R_reads' HO_6.out).2.1); rintro e w18 ⟨rfl, hb⟩; refine ⟨_, rfl, ?_⟩; have n0_ := Aside0.mk (Kd.R_below (by exact HO_6.out) hb); have n1_ := Aside0.mk (blk_below (g := gb430) (o := .cells #[.int .i64 a0_0, .int .i64 a0_1, .int .i64 a0_2] 31 (0, 0)) (by exact BK430.out) hb); have n2_ := Aside0.mk (below_step (by repeat ((with_reducible (exact HB.out)))) hb); clear HO_6; clear BK430; clear HB; have HO_6 := n0_; have BK430 := n1_; have HB := n2_; clear n0_ n1_ n2_; (try clear hb); (try clear hb2); (try clear hk); (try clear hi)) | (go_at_call 27; (with_reducible refine (busy_Asked.calls k1 _ _ x6_1 1 t436 _ ?side1 ?side2 A15.out).mono ?_); (case side1 => repeat ((exact (Kd.R_reads' HO_6.out).2.2))); (case side2 => exact (Kd.R_reads' HO_6.out).2.1); rintro e w19 ⟨rfl, hb⟩; have n0_ := Aside0.mk (Kd.R_below (by exact HO_6.out) hb); have n1_ := Aside0.mk (blk_below (g := gb430) (o := .cells #[.int .i64 a0_0, .int .i64 a0_1, .int .i64 a0_2] 31 (0, 0)) (by exact BK430.out) hb); have n2_ := Aside0.mk (below_step (by repeat ((with_reducible (exact HB.out)))) hb); clear HO_6; clear BK430; clear HB; have HO_6 := n0_; have BK430 := n1_; have HB := n2_; clear n0_ n1_ n2_; (try clear hb); (try clear hb2); (try clear hk); (try clear hi)) | (go_at_call 40; (with_reducible refine (hortatorlaw9_b2i.calls (decide ((Int.tmod (wrap64 ((Int.tmod a1 30) + 30)) 30) ≤ 24)) t437 _ A16.out).mono ?_); rintro e w' ⟨rfl, ⟨nd, rfl⟩⟩))
       go_meet
       case rel => exact ⟨_, ((t436 != (wrap64 ((Int.tmod (wrap64 ((Int.tmod a1 30) + 30)) 30) * t437)))), (by (rfl)), H', ⟨by have := HK1.out; (omega)⟩, ⟨by (with_reducible repeat ((refine blk_drewN ?_ _))); exact BK430.out⟩, ⟨by repeat ((with_reducible first | exact HB.out | apply pw_below_drewN))⟩⟩
     case rest =>
      clear HC10
      try clear c7b0
      obtain ⟨kq, x40_9, rfl, HA, HJ9, BK430, HB⟩ := hcut
      cases kq with
      | zero => exact absurd HA.out (by simp [hortatorlaw9_DemandNone.j1])
      | succ kj9 =>
       have H := HA.out
       clear HA
       simp only [hortatorlaw9_DemandNone.j1] at H
       by_cases c20 : x40_9 = true
       ·subst c20
        have H1 : (none) = some r := by rw [if_pos rfl] at H; exact H
        clear H
        have H := H1
        clear H1
        exact absurd H (by simp)
       ·replace c20 := Bool.eq_false_iff.mpr c20
        subst c20
        have H1 : ((hortatorref7_Load.f a0_0 a0_1 a0_2).bind fun t438 => (if t438 = true then (some true) else ((busy_Time.f kj9 (([(⟨a0_0, a0_1, a0_2⟩ : S31)] : List (S31)))).bind fun bt442 => ((demand_Fits.f kj9 (([(⟨a0_0, a0_1, a0_2⟩ : S31)] : List (S31)))).bind fun t447 => (if t447 = true then (none) else (if bt442.2 = true then (none) else ((busy_Asked.f kj9 (([(⟨a0_0, a0_1, a0_2⟩ : S31)] : List (S31))) 5).bind fun t451 => (if t451 = 0 then ((demand_Bound.f (([(⟨a0_0, a0_1, a0_2⟩ : S31)] : List (S31))) 5).bind fun t455 => (some (t455 == 0))) else (none))))))))) = some r := by rw [if_neg (show ¬ (false = true) by decide)] at H; exact H
        clear H
        have H := H1
        clear H1
        replace H := Option.bind_eq_some_iff.mp H
        obtain ⟨t438, A210, H⟩ := H
        have A21 := Aside0.mk A210
        clear A210
        by_cases c22 : t438 = true
        ·subst c22
         have H1 : (some true) = some r := by rw [if_pos rfl] at H; exact H
         clear H
         have H := H1
         clear H1
         obtain rfl := Option.some.inj H
         have hcz23_0 : wc.cell? ⟨gb430, 0, none⟩ = some (.int .i64 a0_0) := (blk_cell BK430.out 0).trans rfl
         have hcz23_1 : wc.cell? ⟨gb430, 1, none⟩ = some (.int .i64 a0_1) := (blk_cell BK430.out 1).trans rfl
         have hcz23_2 : wc.cell? ⟨gb430, 2, none⟩ = some (.int .i64 a0_2) := (blk_cell BK430.out 2).trans rfl
         have hfz23_0 := blk_frozen BK430.out 0
         have hfz23_1 := blk_frozen BK430.out 1
         have hfz23_2 := blk_frozen BK430.out 2
         go_wp2_with (((with_reducible refine gate_callee (f := 35) rfl ?_); refine goesL_ (some 42) rfl rfl Tryz.func35 (by kernel_rfl) rfl #[.agg #[.int .i64 a0_0, .int .i64 a0_1, .int .i64 a0_2]] rfl (by (try simp only [List.map_toArray, List.map_cons, List.map_nil]); (rfl)) ?_; (with_reducible refine (hortatorref7_Load.calls a0_0 a0_1 a0_2 true _ A21.out).mono ?_); rintro e w24 ⟨rfl, hb⟩; refine ⟨_, rfl, ?_⟩; have n0_ := Aside0.mk (blk_below (g := gb430) (o := .cells #[.int .i64 a0_0, .int .i64 a0_1, .int .i64 a0_2] 31 (0, 0)) (by exact BK430.out) hb); have n1_ := Aside0.mk (below_step (by repeat ((with_reducible (exact HB.out)))) hb); clear BK430; clear HB; have BK430 := n0_; have HB := n1_; clear n0_ n1_; (try clear hb); (try clear hb2); (try clear hk); (try clear hi)))
         go_ret
         exact ⟨by (rfl), by repeat ((with_reducible (exact HB.out)))⟩
        ·replace c22 := Bool.eq_false_iff.mpr c22
         subst c22
         have H1 : ((busy_Time.f kj9 (([(⟨a0_0, a0_1, a0_2⟩ : S31)] : List (S31)))).bind fun bt442 => ((demand_Fits.f kj9 (([(⟨a0_0, a0_1, a0_2⟩ : S31)] : List (S31)))).bind fun t447 => (if t447 = true then (none) else (if bt442.2 = true then (none) else ((busy_Asked.f kj9 (([(⟨a0_0, a0_1, a0_2⟩ : S31)] : List (S31))) 5).bind fun t451 => (if t451 = 0 then ((demand_Bound.f (([(⟨a0_0, a0_1, a0_2⟩ : S31)] : List (S31))) 5).bind fun t455 => (some (t455 == 0))) else (none))))))) = some r := by rw [if_neg (show ¬ (false = true) by decide)] at H; exact H
         clear H
         have H := H1
         clear H1
         obtain ⟨y439, hy439⟩ : ∃ y_ : List (S31), y_ = (([(⟨a0_0, a0_1, a0_2⟩ : S31)] : List (S31))) := ⟨_, rfl⟩
         replace H : ((busy_Time.f kj9 y439).bind fun bt442 => ((demand_Fits.f kj9 (([(⟨a0_0, a0_1, a0_2⟩ : S31)] : List (S31)))).bind fun t447 => (if t447 = true then (none) else (if bt442.2 = true then (none) else ((busy_Asked.f kj9 (([(⟨a0_0, a0_1, a0_2⟩ : S31)] : List (S31))) 5).bind fun t451 => (if t451 = 0 then ((demand_Bound.f (([(⟨a0_0, a0_1, a0_2⟩ : S31)] : List (S31))) 5).bind fun t455 => (some (t455 == 0))) else (none))))))) = some r := by (rw [hy439]; with_reducible exact H)
         have Ny439 := Aside0.mk hy439
         clear hy439
         replace H := Option.bind_eq_some_iff.mp H
         obtain ⟨⟨t442, t443⟩, A250, H⟩ := H
         have A25 := Aside0.mk A250
         clear A250
         obtain ⟨y444, hy444⟩ : ∃ y_ : List (S31), y_ = (([(⟨a0_0, a0_1, a0_2⟩ : S31)] : List (S31))) := ⟨_, rfl⟩
         replace H : ((demand_Fits.f kj9 y444).bind fun t447 => (if t447 = true then (none) else (if t443 = true then (none) else ((busy_Asked.f kj9 (([(⟨a0_0, a0_1, a0_2⟩ : S31)] : List (S31))) 5).bind fun t451 => (if t451 = 0 then ((demand_Bound.f (([(⟨a0_0, a0_1, a0_2⟩ : S31)] : List (S31))) 5).bind fun t455 => (some (t455 == 0))) else (none)))))) = some r := by (rw [hy444]; with_reducible exact H)
         have Ny444 := Aside0.mk hy444
         clear hy444
         replace H := Option.bind_eq_some_iff.mp H
         obtain ⟨t447, A260, H⟩ := H
         have A26 := Aside0.mk A260
         clear A260
         by_cases c27 : t447 = true
         ·subst c27
          have H1 : (none) = some r := by rw [if_pos rfl] at H; exact H
          clear H
          have H := H1
          clear H1
          exact absurd H (by simp)
         ·replace c27 := Bool.eq_false_iff.mpr c27
          subst c27
          have H1 : (if t443 = true then (none) else ((busy_Asked.f kj9 (([(⟨a0_0, a0_1, a0_2⟩ : S31)] : List (S31))) 5).bind fun t451 => (if t451 = 0 then ((demand_Bound.f (([(⟨a0_0, a0_1, a0_2⟩ : S31)] : List (S31))) 5).bind fun t455 => (some (t455 == 0))) else (none)))) = some r := by rw [if_neg (show ¬ (false = true) by decide)] at H; exact H
          clear H
          have H := H1
          clear H1
          by_cases c28 : t443 = true
          ·subst c28
           have H1 : (none) = some r := by rw [if_pos rfl] at H; exact H
           clear H
           have H := H1
           clear H1
           exact absurd H (by simp)
          ·replace c28 := Bool.eq_false_iff.mpr c28
           subst c28
           have H1 : ((busy_Asked.f kj9 (([(⟨a0_0, a0_1, a0_2⟩ : S31)] : List (S31))) 5).bind fun t451 => (if t451 = 0 then ((demand_Bound.f (([(⟨a0_0, a0_1, a0_2⟩ : S31)] : List (S31))) 5).bind fun t455 => (some (t455 == 0))) else (none))) = some r := by rw [if_neg (show ¬ (false = true) by decide)] at H; exact H
           clear H
           have H := H1
           clear H1
           obtain ⟨y448, hy448⟩ : ∃ y_ : List (S31), y_ = (([(⟨a0_0, a0_1, a0_2⟩ : S31)] : List (S31))) := ⟨_, rfl⟩
           replace H : ((busy_Asked.f kj9 y448 5).bind fun t451 => (if t451 = 0 then ((demand_Bound.f (([(⟨a0_0, a0_1, a0_2⟩ : S31)] : List (S31))) 5).bind fun t455 => (some (t455 == 0))) else (none))) = some r := by (rw [hy448]; with_reducible exact H)
           have Ny448 := Aside0.mk hy448
           clear hy448
           replace H := Option.bind_eq_some_iff.mp H
           obtain ⟨t451, A290, H⟩ := H
           have A29 := Aside0.mk A290
           clear A290
           by_cases c30 : t451 = 0
           ·rw [if_pos c30] at H
            have c30b0 : (t451 == 0) = true := beq_iff_eq.mpr c30
            have c30b1 : (t451 != 0) = false := bne_eq_false_iff_eq.mpr c30
            clear c30
            obtain ⟨y452, hy452⟩ : ∃ y_ : List (S31), y_ = (([(⟨a0_0, a0_1, a0_2⟩ : S31)] : List (S31))) := ⟨_, rfl⟩
            replace H : ((demand_Bound.f y452 5).bind fun t455 => (some (t455 == 0))) = some r := by (rw [hy452]; with_reducible exact H)
            have Ny452 := Aside0.mk hy452
            clear hy452
            replace H := Option.bind_eq_some_iff.mp H
            obtain ⟨t455, A310, H⟩ := H
            have A31 := Aside0.mk A310
            clear A310
            obtain rfl := Option.some.inj H
            have hcz32_0 : wc.cell? ⟨gb430, 0, none⟩ = some (.int .i64 a0_0) := (blk_cell BK430.out 0).trans rfl
            have hcz32_1 : wc.cell? ⟨gb430, 1, none⟩ = some (.int .i64 a0_1) := (blk_cell BK430.out 1).trans rfl
            have hcz32_2 : wc.cell? ⟨gb430, 2, none⟩ = some (.int .i64 a0_2) := (blk_cell BK430.out 2).trans rfl
            have hfz32_0 := blk_frozen BK430.out 0
            have hfz32_1 := blk_frozen BK430.out 1
            have hfz32_2 := blk_frozen BK430.out 2
            go_wp2_with (first | ((with_reducible refine gate_callee (f := 35) rfl ?_); refine goesL_ (some 42) rfl rfl Tryz.func35 (by kernel_rfl) rfl #[.agg #[.int .i64 a0_0, .int .i64 a0_1, .int .i64 a0_2]] rfl (by (try simp only [List.map_toArray, List.map_cons, List.map_nil]); (rfl)) ?_; (with_reducible refine (hortatorref7_Load.calls a0_0 a0_1 a0_2 false _ A21.out).mono ?_); rintro e w33 ⟨rfl, hb⟩; refine ⟨_, rfl, ?_⟩; have n0_ := Aside0.mk (blk_below (g := gb430) (o := .cells #[.int .i64 a0_0, .int .i64 a0_1, .int .i64 a0_2] 31 (0, 0)) (by exact BK430.out) hb); have n1_ := Aside0.mk (below_step (by repeat ((with_reducible (exact HB.out)))) hb); clear BK430; clear HB; have BK430 := n0_; have HB := n1_; clear n0_ n1_; (try clear hb); (try clear hb2); (try clear hk); (try clear hi); have hcz34_0 : w33.cell? ⟨gb430, 0, none⟩ = some (.int .i64 a0_0) := (blk_cell BK430.out 0).trans rfl; have hcz34_1 : w33.cell? ⟨gb430, 1, none⟩ = some (.int .i64 a0_1) := (blk_cell BK430.out 1).trans rfl; have hcz34_2 : w33.cell? ⟨gb430, 2, none⟩ = some (.int .i64 a0_2) := (blk_cell BK430.out 2).trans rfl; have hfz34_0 := blk_frozen BK430.out 0; have hfz34_1 := blk_frozen BK430.out 1; have hfz34_2 := blk_frozen BK430.out 2) | ((with_reducible refine gate_dst (N := 45) rfl ?_); (try (refine gate_guard (by rfl) ?_; dsimp only)); refine Kd.R_lit k31 _ 31 ?hg (N := 45) ?hd (xs := ([(⟨a0_0, a0_1, a0_2⟩ : S31)] : List (S31))) (inner := [.int .i64 a0_0, .int .i64 a0_1, .int .i64 a0_2]) (ok := fun _ => True) (okp := fun _ => True) ?hr ?hp (fun _ hk => hk) trivial (Below.refl _ _) (Nat.le_refl _) (by simp) ?_; (case hd => rfl); (case hg => rfl); (case hr => (go_simp; done)); (case hp => exact (Reps.c3 (show Kd.M k31 _ _ _ (⟨a0_0, a0_1, a0_2⟩ : S31) [.int .i64 a0_0, .int .i64 a0_1, .int .i64 a0_2] from (k31_mkM _ _ _ (⟨a0_0, a0_1, a0_2⟩ : S31) )) (Reps.none _ _))); intro v440 w35 ho36 hb hg_ hnew_; clear hg_ hnew_; ((rw [← Ny439.out] at ho36)); have n0_ := Aside0.mk (Kd.R_lower (Kd.R_newB ho36 (g := gb430) (o := .cells #[.int .i64 a0_0, .int .i64 a0_1, .int .i64 a0_2] 31 (0, 0)) (by exact BK430.out)) (below_size (by repeat ((with_reducible (exact HB.out)))))); have n1_ := Aside0.mk (blk_below (g := gb430) (o := .cells #[.int .i64 a0_0, .int .i64 a0_1, .int .i64 a0_2] 31 (0, 0)) (by exact BK430.out) hb); have n2_ := Aside0.mk (below_step (by repeat ((with_reducible (exact HB.out)))) hb); clear BK430; clear HB; have HO441 := n0_; have BK430 := n1_; have HB := n2_; clear n0_ n1_ n2_; clear hb ho36; obtain ⟨Ao37, co37, eo37⟩ := Kd.R_slice HO441.out; subst eo37) | ((with_reducible refine gate_callee (f := 25) rfl ?_); refine goesL_ (some 46) rfl rfl Tryz.func25 (by kernel_rfl) rfl #[.slice Ao37 y439.length co37] rfl (by (try simp only [List.map_toArray, List.map_cons, List.map_nil]); (rfl)) ?_; (with_reducible refine (busy_Time.calls kj9 _ _ y439 t442 false _ ?side1 ?side2 A25.out).mono ?_); (case side1 => repeat ((exact (Kd.R_reads' HO441.out).2.2))); (case side2 => exact (Kd.R_reads' HO441.out).2.1); rintro e w38 ⟨rfl, hb⟩; refine ⟨_, rfl, ?_⟩; have n0_ := Aside0.mk (Kd.R_below (by exact HO441.out) hb); have n1_ := Aside0.mk (blk_below (g := gb430) (o := .cells #[.int .i64 a0_0, .int .i64 a0_1, .int .i64 a0_2] 31 (0, 0)) (by exact BK430.out) hb); have n2_ := Aside0.mk (below_step (by repeat ((with_reducible (exact HB.out)))) hb); clear HO441; clear BK430; clear HB; have HO441 := n0_; have BK430 := n1_; have HB := n2_; clear n0_ n1_ n2_; (try clear hb); (try clear hb2); (try clear hk); (try clear hi); have hcz39_0 : w38.cell? ⟨gb430, 0, none⟩ = some (.int .i64 a0_0) := (blk_cell BK430.out 0).trans rfl; have hcz39_1 : w38.cell? ⟨gb430, 1, none⟩ = some (.int .i64 a0_1) := (blk_cell BK430.out 1).trans rfl; have hcz39_2 : w38.cell? ⟨gb430, 2, none⟩ = some (.int .i64 a0_2) := (blk_cell BK430.out 2).trans rfl; have hfz39_0 := blk_frozen BK430.out 0; have hfz39_1 := blk_frozen BK430.out 1; have hfz39_2 := blk_frozen BK430.out 2) | ((with_reducible refine gate_dst (N := 50) rfl ?_); (try (refine gate_guard (by rfl) ?_; dsimp only)); refine Kd.R_lit k31 _ 31 ?hg (N := 50) ?hd (xs := ([(⟨a0_0, a0_1, a0_2⟩ : S31)] : List (S31))) (inner := [.int .i64 a0_0, .int .i64 a0_1, .int .i64 a0_2]) (ok := fun _ => True) (okp := fun _ => True) ?hr ?hp (fun _ hk => hk) trivial (Below.refl _ _) (Nat.le_refl _) (by simp) ?_; (case hd => rfl); (case hg => rfl); (case hr => (go_simp; done)); (case hp => exact (Reps.c3 (show Kd.M k31 _ _ _ (⟨a0_0, a0_1, a0_2⟩ : S31) [.int .i64 a0_0, .int .i64 a0_1, .int .i64 a0_2] from (k31_mkM _ _ _ (⟨a0_0, a0_1, a0_2⟩ : S31) )) (Reps.none _ _))); intro v445 w40 ho41 hb hg_ hnew_; clear hg_ hnew_; ((rw [← Ny444.out] at ho41)); have n0_ := Aside0.mk (Kd.R_elder' (by exact HO441.out) (Kd.R_base ho41) hb); have n1_ := Aside0.mk (Kd.R_lower (Kd.R_newB (Kd.R_new' ho41 (Kd.R_lt (by exact HO441.out))) (g := gb430) (o := .cells #[.int .i64 a0_0, .int .i64 a0_1, .int .i64 a0_2] 31 (0, 0)) (by exact BK430.out)) (below_size (by repeat ((with_reducible (exact HB.out)))))); have n2_ := Aside0.mk (blk_below (g := gb430) (o := .cells #[.int .i64 a0_0, .int .i64 a0_1, .int .i64 a0_2] 31 (0, 0)) (by exact BK430.out) hb); have n3_ := Aside0.mk (below_step (by repeat ((with_reducible (exact HB.out)))) hb); clear HO441; clear BK430; clear HB; have HO441 := n0_; have HO446 := n1_; have BK430 := n2_; have HB := n3_; clear n0_ n1_ n2_ n3_; clear hb ho41; obtain ⟨Ao42, co42, eo42⟩ := Kd.R_slice HO446.out; subst eo42) | ((with_reducible refine gate_callee (f := 34) rfl ?_); refine goesL_ (some 51) rfl rfl Tryz.func34 (by kernel_rfl) rfl #[.slice Ao42 y444.length co42] rfl (by (try simp only [List.map_toArray, List.map_cons, List.map_nil]); (rfl)) ?_; (with_reducible refine (demand_Fits.calls kj9 _ _ y444 false _ ?side1 ?side2 A26.out).mono ?_); (case side1 => repeat ((exact (Kd.R_reads' HO446.out).2.2))); (case side2 => exact (Kd.R_reads' HO446.out).2.1); rintro e w43 ⟨rfl, hb⟩; refine ⟨_, rfl, ?_⟩; have n0_ := Aside0.mk (Kd.R_below (by exact HO441.out) hb); have n1_ := Aside0.mk (Kd.R_below (by exact HO446.out) hb); have n2_ := Aside0.mk (blk_below (g := gb430) (o := .cells #[.int .i64 a0_0, .int .i64 a0_1, .int .i64 a0_2] 31 (0, 0)) (by exact BK430.out) hb); have n3_ := Aside0.mk (below_step (by repeat ((with_reducible (exact HB.out)))) hb); clear HO441; clear HO446; clear BK430; clear HB; have HO441 := n0_; have HO446 := n1_; have BK430 := n2_; have HB := n3_; clear n0_ n1_ n2_ n3_; (try clear hb); (try clear hb2); (try clear hk); (try clear hi); have hcz44_0 : w43.cell? ⟨gb430, 0, none⟩ = some (.int .i64 a0_0) := (blk_cell BK430.out 0).trans rfl; have hcz44_1 : w43.cell? ⟨gb430, 1, none⟩ = some (.int .i64 a0_1) := (blk_cell BK430.out 1).trans rfl; have hcz44_2 : w43.cell? ⟨gb430, 2, none⟩ = some (.int .i64 a0_2) := (blk_cell BK430.out 2).trans rfl; have hfz44_0 := blk_frozen BK430.out 0; have hfz44_1 := blk_frozen BK430.out 1; have hfz44_2 := blk_frozen BK430.out 2) | ((with_reducible refine gate_dst (N := 59) rfl ?_); (try (refine gate_guard (by rfl) ?_; dsimp only)); refine Kd.R_lit k31 _ 31 ?hg (N := 59) ?hd (xs := ([(⟨a0_0, a0_1, a0_2⟩ : S31)] : List (S31))) (inner := [.int .i64 a0_0, .int .i64 a0_1, .int .i64 a0_2]) (ok := fun _ => True) (okp := fun _ => True) ?hr ?hp (fun _ hk => hk) trivial (Below.refl _ _) (Nat.le_refl _) (by simp) ?_; (case hd => rfl); (case hg => rfl); (case hr => (go_simp; done)); (case hp => exact (Reps.c3 (show Kd.M k31 _ _ _ (⟨a0_0, a0_1, a0_2⟩ : S31) [.int .i64 a0_0, .int .i64 a0_1, .int .i64 a0_2] from (k31_mkM _ _ _ (⟨a0_0, a0_1, a0_2⟩ : S31) )) (Reps.none _ _))); intro v449 w45 ho46 hb hg_ hnew_; clear hg_ hnew_; ((rw [← Ny448.out] at ho46)); have n0_ := Aside0.mk (Kd.R_elder' (by exact HO441.out) (Kd.R_base ho46) hb); have n1_ := Aside0.mk (Kd.R_elder' (by exact HO446.out) (Kd.R_base ho46) hb); have n2_ := Aside0.mk (Kd.R_lower (Kd.R_newB (Kd.R_new' (Kd.R_new' ho46 (Kd.R_lt (by exact HO441.out))) (Kd.R_lt (by exact HO446.out))) (g := gb430) (o := .cells #[.int .i64 a0_0, .int .i64 a0_1, .int .i64 a0_2] 31 (0, 0)) (by exact BK430.out)) (below_size (by repeat ((with_reducible (exact HB.out)))))); have n3_ := Aside0.mk (blk_below (g := gb430) (o := .cells #[.int .i64 a0_0, .int .i64 a0_1, .int .i64 a0_2] 31 (0, 0)) (by exact BK430.out) hb); have n4_ := Aside0.mk (below_step (by repeat ((with_reducible (exact HB.out)))) hb); clear HO441; clear HO446; clear BK430; clear HB; have HO441 := n0_; have HO446 := n1_; have HO450 := n2_; have BK430 := n3_; have HB := n4_; clear n0_ n1_ n2_ n3_ n4_; clear hb ho46; obtain ⟨Ao47, co47, eo47⟩ := Kd.R_slice HO450.out; subst eo47) | (go_at_call 27; (with_reducible refine (busy_Asked.calls kj9 _ _ y448 5 t451 _ ?side1 ?side2 A29.out).mono ?_); (case side1 => repeat ((exact (Kd.R_reads' HO450.out).2.2))); (case side2 => exact (Kd.R_reads' HO450.out).2.1); rintro e w48 ⟨rfl, hb⟩; have n0_ := Aside0.mk (Kd.R_below (by exact HO441.out) hb); have n1_ := Aside0.mk (Kd.R_below (by exact HO446.out) hb); have n2_ := Aside0.mk (Kd.R_below (by exact HO450.out) hb); have n3_ := Aside0.mk (blk_below (g := gb430) (o := .cells #[.int .i64 a0_0, .int .i64 a0_1, .int .i64 a0_2] 31 (0, 0)) (by exact BK430.out) hb); have n4_ := Aside0.mk (below_step (by repeat ((with_reducible (exact HB.out)))) hb); clear HO441; clear HO446; clear HO450; clear BK430; clear HB; have HO441 := n0_; have HO446 := n1_; have HO450 := n2_; have BK430 := n3_; have HB := n4_; clear n0_ n1_ n2_ n3_ n4_; (try clear hb); (try clear hb2); (try clear hk); (try clear hi); have hcz49_0 : w48.cell? ⟨gb430, 0, none⟩ = some (.int .i64 a0_0) := (blk_cell BK430.out 0).trans rfl; have hcz49_1 : w48.cell? ⟨gb430, 1, none⟩ = some (.int .i64 a0_1) := (blk_cell BK430.out 1).trans rfl; have hcz49_2 : w48.cell? ⟨gb430, 2, none⟩ = some (.int .i64 a0_2) := (blk_cell BK430.out 2).trans rfl; have hfz49_0 := blk_frozen BK430.out 0; have hfz49_1 := blk_frozen BK430.out 1; have hfz49_2 := blk_frozen BK430.out 2) | ((with_reducible refine gate_dst (N := 65) rfl ?_); (try (refine gate_guard (by rfl) ?_; dsimp only)); refine Kd.R_lit k31 _ 31 ?hg (N := 65) ?hd (xs := ([(⟨a0_0, a0_1, a0_2⟩ : S31)] : List (S31))) (inner := [.int .i64 a0_0, .int .i64 a0_1, .int .i64 a0_2]) (ok := fun _ => True) (okp := fun _ => True) ?hr ?hp (fun _ hk => hk) trivial (Below.refl _ _) (Nat.le_refl _) (by simp) ?_; (case hd => rfl); (case hg => rfl); (case hr => (go_simp; done)); (case hp => exact (Reps.c3 (show Kd.M k31 _ _ _ (⟨a0_0, a0_1, a0_2⟩ : S31) [.int .i64 a0_0, .int .i64 a0_1, .int .i64 a0_2] from (k31_mkM _ _ _ (⟨a0_0, a0_1, a0_2⟩ : S31) )) (Reps.none _ _))); intro v453 w50 ho51 hb hg_ hnew_; clear hg_ hnew_; ((rw [← Ny452.out] at ho51)); have n0_ := Aside0.mk (Kd.R_elder' (by exact HO441.out) (Kd.R_base ho51) hb); have n1_ := Aside0.mk (Kd.R_elder' (by exact HO446.out) (Kd.R_base ho51) hb); have n2_ := Aside0.mk (Kd.R_elder' (by exact HO450.out) (Kd.R_base ho51) hb); have n3_ := Aside0.mk (Kd.R_lower (Kd.R_newB (Kd.R_new' (Kd.R_new' (Kd.R_new' ho51 (Kd.R_lt (by exact HO441.out))) (Kd.R_lt (by exact HO446.out))) (Kd.R_lt (by exact HO450.out))) (g := gb430) (o := .cells #[.int .i64 a0_0, .int .i64 a0_1, .int .i64 a0_2] 31 (0, 0)) (by exact BK430.out)) (below_size (by repeat ((with_reducible (exact HB.out)))))); have n4_ := Aside0.mk (blk_below (g := gb430) (o := .cells #[.int .i64 a0_0, .int .i64 a0_1, .int .i64 a0_2] 31 (0, 0)) (by exact BK430.out) hb); have n5_ := Aside0.mk (below_step (by repeat ((with_reducible (exact HB.out)))) hb); clear HO441; clear HO446; clear HO450; clear BK430; clear HB; have HO441 := n0_; have HO446 := n1_; have HO450 := n2_; have HO454 := n3_; have BK430 := n4_; have HB := n5_; clear n0_ n1_ n2_ n3_ n4_ n5_; clear hb ho51; obtain ⟨Ao52, co52, eo52⟩ := Kd.R_slice HO454.out; subst eo52) | (go_at_call 32; (with_reducible refine (demand_Bound.calls _ _ y452 5 t455 _ ?side1 ?side2 A31.out).mono ?_); (case side1 => repeat ((exact (Kd.R_reads' HO454.out).2.2))); (case side2 => exact (Kd.R_reads' HO454.out).2.1); rintro e w53 ⟨rfl, hb⟩; have n0_ := Aside0.mk (Kd.R_below (by exact HO441.out) hb); have n1_ := Aside0.mk (Kd.R_below (by exact HO446.out) hb); have n2_ := Aside0.mk (Kd.R_below (by exact HO450.out) hb); have n3_ := Aside0.mk (Kd.R_below (by exact HO454.out) hb); have n4_ := Aside0.mk (blk_below (g := gb430) (o := .cells #[.int .i64 a0_0, .int .i64 a0_1, .int .i64 a0_2] 31 (0, 0)) (by exact BK430.out) hb); have n5_ := Aside0.mk (below_step (by repeat ((with_reducible (exact HB.out)))) hb); clear HO441; clear HO446; clear HO450; clear HO454; clear BK430; clear HB; have HO441 := n0_; have HO446 := n1_; have HO450 := n2_; have HO454 := n3_; have BK430 := n4_; have HB := n5_; clear n0_ n1_ n2_ n3_ n4_ n5_; (try clear hb); (try clear hb2); (try clear hk); (try clear hi)))
            go_ret
            exact ⟨by (rfl), by repeat ((with_reducible (exact HB.out)))⟩
           ·rw [if_neg c30] at H
            exact absurd H (by simp)
 ·replace c4 := Bool.eq_false_iff.mpr c4
  subst c4
  have H1 : (none) = some r := by rw [if_neg (show ¬ (false = true) by decide)] at H; exact H
  clear H
  have H := H1
  clear H1
  exact absurd H (by simp)

end Go.Proofs.YtddepomgaeadpaaGreatDoor.PAll
