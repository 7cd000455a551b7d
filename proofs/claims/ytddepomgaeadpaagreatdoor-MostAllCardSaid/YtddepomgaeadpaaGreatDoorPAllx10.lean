-- Written by a program of this session (wip/pp.py) over the kit's print, with hand-proved contracts beside it.
import Derived.Test.YtddepomgaeadpaaGreatDoorPAllx0
import Derived.Test.YtddepomgaeadpaaGreatDoorPAllx2
import Derived.Test.YtddepomgaeadpaaGreatDoorPAllx3
import Derived.Test.YtddepomgaeadpaaGreatDoorPAllx4
import Derived.Test.YtddepomgaeadpaaGreatDoorPAllx8
import Derived.Test.YtddepomgaeadpaaGreatDoorPAllx9
namespace Go.Proofs.YtddepomgaeadpaaGreatDoor.PAll
open Go.Shelf Go.Lib Go.RowKit Go.Proofs.YtddepomgaeadpaaGreatDoorW.PrintWords Go.Proofs.YtddepomgaeadpaaGreatDoorW.PrintLast Go.Proofs.YtddepomgaeadpaaGreatDoorW.PrintMore
attribute [local go_sem] max2_int min2_int max_two min_two max_three min_three max_four min_four   -- for this text's walks alone
set_option linter.unusedVariables false
set_option linter.unusedSimpArgs false

/-! ### hortatorref7_Tight: function 39 -/
mutual
def hortatorref7_Tight.j0 : Nat → List (S31) → Int → Int → Bool → Option (Int)
 | 0, _, _, _, _ => none
 | k + 1, x0, x1, x2, x23 => if x23 = true then (some 0) else (hortatorref7_Tight.l0 k x0 x1 x2 0)
def hortatorref7_Tight.l0 : Nat → List (S31) → Int → Int → Int → Option (Int)
 | 0, _, _, _, _ => none
 | k + 1, x0, x1, x2, x7 => if x7 < (mn x2 x1) then ((hortatorref7_with.f x0 (wrap64 (x7 + 1)) (wrap64 (x7 + 1)) x1).bind fun t313 => ((hortatorref7_Fits.f k t313).bind fun t316 => (if t316 = true then (hortatorref7_Tight.l0 k x0 x1 x2 (wrap64 (x7 + 1))) else (some x7)))) else (some x7)
end
def hortatorref7_Tight.f (k : Nat) (l0 : List (S31)) (a1 : Int) (a2 : Int) : Option (Int) := if (l0.length : Int) > 23 then (hortatorref7_Tight.j0 k l0 a1 a2 true) else ((hortatorref7_Fits.f k l0).bind fun t312 => (if t312 = true then (if a1 < 1 then (hortatorref7_Tight.j0 k l0 a1 a2 true) else (hortatorref7_Tight.j0 k l0 a1 a2 (decide (a1 > 200)))) else (hortatorref7_Tight.j0 k l0 a1 a2 true)))
set_option maxHeartbeats 8000000 in
set_option maxRecDepth 100000 in
theorem hortatorref7_Tight.calls (k : Nat) (A0 : Option Addr) (c0 : Nat) (l0 : List (S31)) (a1 : Int) (a2 : Int) (r : Int) (w : World) (hr0 : Kd.C k31 w A0 l0.length l0) (hc0 : l0.length ≤ c0) (h : hortatorref7_Tight.f k l0 a1 a2 = some r) :
  Calls Tryz.prog 39 #[.slice A0 l0.length c0, .int .i64 a1, .int .i64 a2] w fun e w' => e = .returned (.int .i64 r) ∧ Below w.heap.size w w' := by
 have hu31 := Tryz.underlying31
 have HR0 := Aside0.mk hr0
 have HC0 := Aside0.mk hc0
 clear hr0 hc0
 have HB := Aside0.mk (Below.refl w.heap.size w)
 have H : (if (l0.length : Int) > 23 then (hortatorref7_Tight.j0 k l0 a1 a2 true) else ((hortatorref7_Fits.f k l0).bind fun t312 => (if t312 = true then (if a1 < 1 then (hortatorref7_Tight.j0 k l0 a1 a2 true) else (hortatorref7_Tight.j0 k l0 a1 a2 (decide (a1 > 200)))) else (hortatorref7_Tight.j0 k l0 a1 a2 true)))) = some r := h
 clear h
 have HC4 := Aside0.mk H
 clear H
 go_enter Tryz.func39, Tryz.ntmps39
 go_upto_region 1 with (fail)
 go_cut [23] (fun v23 wc => ∃ (kq : Nat) (x23_3 : Bool), v23 = .bool x23_3 ∧ Aside0 (hortatorref7_Tight.j0 kq l0 a1 a2 x23_3 = some r) ∧ Aside0 (kq ≤ k) ∧ Aside0 (Below w.heap.size w wc))
 case first =>
  have H := HC4.out
  clear HC4
  by_cases c5 : (l0.length : Int) > 23
  ·rw [if_pos c5] at H
   have c5b0 : decide (23 < (l0.length : Int)) = true := decide_eq_true c5
   have c5b1 : decide (23 < l0.length) = true := decide_eq_true (by omega)
   clear c5
   ((skip))
   have H' := Aside0.mk H
   clear H
   go_wp2
   go_meet
   case rel => exact ⟨_, (true), (by (rfl)), H', ⟨by (omega)⟩, ⟨by repeat ((with_reducible (exact HB.out)))⟩⟩
  ·rw [if_neg c5] at H
   have c5b0 : decide (23 < (l0.length : Int)) = false := decide_eq_false c5
   have c5b1 : decide (23 < l0.length) = false := decide_eq_false (by omega)
   clear c5
   ((skip))
   replace H := Option.bind_eq_some_iff.mp H
   obtain ⟨t312, A60, H⟩ := H
   have A6 := Aside0.mk A60
   clear A60
   by_cases c7 : t312 = true
   ·subst c7
    have H1 : (if a1 < 1 then (hortatorref7_Tight.j0 k l0 a1 a2 true) else (hortatorref7_Tight.j0 k l0 a1 a2 (decide (a1 > 200)))) = some r := by rw [if_pos rfl] at H; exact H
    clear H
    have H := H1
    clear H1
    by_cases c8 : a1 < 1
    ·rw [if_pos c8] at H
     have c8b0 : decide (a1 < 1) = true := decide_eq_true c8
     clear c8
     have H' := Aside0.mk H
     clear H
     go_wp2_with ((go_at_call 51; (with_reducible refine (hortatorref7_Fits.calls k _ _ l0 true _ ?side1 ?side2 A6.out).mono ?_); (case side1 => repeat ((exact (Kd.C_below HR0.out HB.out)))); (case side2 => exact HC0.out); rintro e w9 ⟨rfl, hb⟩; have n0_ := Aside0.mk (below_step (by repeat ((with_reducible (exact HB.out)))) hb); clear HB; have HB := n0_; clear n0_; (try clear hb); (try clear hb2); (try clear hk); (try clear hi)))
     go_meet
     case rel => exact ⟨_, (true), (by (rfl)), H', ⟨by (omega)⟩, ⟨by repeat ((with_reducible (exact HB.out)))⟩⟩
    ·rw [if_neg c8] at H
     have c8b0 : decide (a1 < 1) = false := decide_eq_false c8
     clear c8
     have H' := Aside0.mk H
     clear H
     go_wp2_with ((go_at_call 51; (with_reducible refine (hortatorref7_Fits.calls k _ _ l0 true _ ?side1 ?side2 A6.out).mono ?_); (case side1 => repeat ((exact (Kd.C_below HR0.out HB.out)))); (case side2 => exact HC0.out); rintro e w10 ⟨rfl, hb⟩; have n0_ := Aside0.mk (below_step (by repeat ((with_reducible (exact HB.out)))) hb); clear HB; have HB := n0_; clear n0_; (try clear hb); (try clear hb2); (try clear hk); (try clear hi)))
     go_meet
     case rel => exact ⟨_, (decide (a1 > 200)), (by (rfl)), H', ⟨by (omega)⟩, ⟨by repeat ((with_reducible (exact HB.out)))⟩⟩
   ·replace c7 := Bool.eq_false_iff.mpr c7
    subst c7
    have H1 : (hortatorref7_Tight.j0 k l0 a1 a2 true) = some r := by rw [if_neg (show ¬ (false = true) by decide)] at H; exact H
    clear H
    have H := H1
    clear H1
    have H' := Aside0.mk H
    clear H
    go_wp2_with ((go_at_call 51; (with_reducible refine (hortatorref7_Fits.calls k _ _ l0 false _ ?side1 ?side2 A6.out).mono ?_); (case side1 => repeat ((exact (Kd.C_below HR0.out HB.out)))); (case side2 => exact HC0.out); rintro e w11 ⟨rfl, hb⟩; have n0_ := Aside0.mk (below_step (by repeat ((with_reducible (exact HB.out)))) hb); clear HB; have HB := n0_; clear n0_; (try clear hb); (try clear hb2); (try clear hk); (try clear hi)))
    go_meet
    case rel => exact ⟨_, (true), (by (rfl)), H', ⟨by (omega)⟩, ⟨by repeat ((with_reducible (exact HB.out)))⟩⟩
 case rest =>
  clear HC4
  obtain ⟨kq, x23_3, rfl, HA, HJ3, HB⟩ := hcut
  cases kq with
  | zero => exact absurd HA.out (by simp [hortatorref7_Tight.j0])
  | succ kj3 =>
   have H := HA.out
   clear HA
   simp only [hortatorref7_Tight.j0] at H
   by_cases c12 : x23_3 = true
   ·subst c12
    have H1 : (some 0) = some r := by rw [if_pos rfl] at H; exact H
    clear H
    have H := H1
    clear H1
    obtain rfl := Option.some.inj H
    go_wp2
    go_ret
    exact ⟨by (rfl), by repeat ((with_reducible (exact HB.out)))⟩
   ·replace c12 := Bool.eq_false_iff.mpr c12
    subst c12
    have H1 : (hortatorref7_Tight.l0 kj3 l0 a1 a2 0) = some r := by rw [if_neg (show ¬ (false = true) by decide)] at H; exact H
    clear H
    have H := H1
    clear H1
    have H' := Aside0.mk H
    clear H
    go_wp2
    go_loopg [7] kj3 (fun kq v7 w' => ∃ (x7_2 : Int), v7 = .int .i64 x7_2 ∧ Aside0 (hortatorref7_Tight.l0 kq l0 a1 a2 x7_2 = some r) ∧ Aside0 (kq ≤ kj3) ∧ Aside0 (Below w.heap.size w w'))
    case atStart => exact ⟨(0), (by (rfl)), H', ⟨Nat.le_refl _⟩, ⟨by repeat ((with_reducible (exact HB.out)))⟩⟩
    case round =>
     clear H'
     obtain ⟨x7_2, rfl, HA, HK2, HB⟩ := hrel
     cases gk with
     | zero => exact absurd HA.out (by simp [hortatorref7_Tight.l0])
     | succ k2 =>
      have H := HA.out
      clear HA
      simp only [hortatorref7_Tight.l0] at H
      obtain ⟨ji13, hji13⟩ : ∃ j_ : Int, (mn a2 a1) = j_ := ⟨_, rfl⟩
      replace H : (if x7_2 < (ji13) then ((hortatorref7_with.f l0 (wrap64 (x7_2 + 1)) (wrap64 (x7_2 + 1)) a1).bind fun t313 => ((hortatorref7_Fits.f k2 t313).bind fun t316 => (if t316 = true then (hortatorref7_Tight.l0 k2 l0 a1 a2 (wrap64 (x7_2 + 1))) else (some x7_2)))) else (some x7_2)) = some r := by (rw [hji13] at H; exact H)
      have hji13_ : (if a1 < a2 then a1 else a2) = ji13 := hji13
      by_cases c14 : x7_2 < (ji13)
      ·rw [if_pos c14] at H
       have c14b0 : decide (x7_2 < (ji13)) = true := decide_eq_true c14
       clear c14
       replace H := Option.bind_eq_some_iff.mp H
       obtain ⟨t313, A150, H⟩ := H
       have A15 := Aside0.mk A150
       clear A150
       replace H := Option.bind_eq_some_iff.mp H
       obtain ⟨t316, A160, H⟩ := H
       have A16 := Aside0.mk A160
       clear A160
       by_cases c17 : t316 = true
       ·subst c17
        have H1 : (hortatorref7_Tight.l0 k2 l0 a1 a2 (wrap64 (x7_2 + 1))) = some r := by rw [if_pos rfl] at H; exact H
        clear H
        have H := H1
        clear H1
        have H' := Aside0.mk H
        clear H
        go_wp2_with (first | (go_at_call 52; (with_reducible refine (hortatorref7_with.calls _ _ l0 (wrap64 (x7_2 + 1)) (wrap64 (x7_2 + 1)) a1 t313 _ ?side1 ?side2 A15.out).mono ?_); (case side1 => repeat ((exact (Kd.C_below HR0.out HB.out)))); (case side2 => exact HC0.out); rintro e w18 ⟨v314, rfl, ho0, hb⟩; have n0_ := Aside0.mk (Kd.R_lower ho0 (below_size (by repeat ((with_reducible (exact HB.out)))))); have n1_ := Aside0.mk (below_step (by repeat ((with_reducible (exact HB.out)))) hb); clear HB; have HO315 := n0_; have HB := n1_; clear n0_ n1_; (try clear hb); (try clear hb2); (try clear hk); (try clear hi); (try clear ho0); obtain ⟨Ao19, co19, eo19⟩ := Kd.R_slice HO315.out; subst eo19) | (go_at_call 51; (with_reducible refine (hortatorref7_Fits.calls k2 _ _ t313 true _ ?side1 ?side2 A16.out).mono ?_); (case side1 => repeat ((exact (Kd.R_reads' HO315.out).2.2))); (case side2 => exact (Kd.R_reads' HO315.out).2.1); rintro e w20 ⟨rfl, hb⟩; have n0_ := Aside0.mk (Kd.R_below (by exact HO315.out) hb); have n1_ := Aside0.mk (below_step (by repeat ((with_reducible (exact HB.out)))) hb); clear HO315; clear HB; have HO315 := n0_; have HB := n1_; clear n0_ n1_; (try clear hb); (try clear hb2); (try clear hk); (try clear hi)))
        go_roundg k2
        case measure => have := HJ3.out; have := HK2.out; omega
        case rel => exact ⟨(wrap64 (x7_2 + 1)), (by (rfl)), H', ⟨by have := HJ3.out; have := HK2.out; omega⟩, ⟨by repeat ((with_reducible (exact HB.out)))⟩⟩
       ·replace c17 := Bool.eq_false_iff.mpr c17
        subst c17
        have H1 : (some x7_2) = some r := by rw [if_neg (show ¬ (false = true) by decide)] at H; exact H
        clear H
        have H := H1
        clear H1
        obtain rfl := Option.some.inj H
        go_wp2_with (first | (go_at_call 52; (with_reducible refine (hortatorref7_with.calls _ _ l0 (wrap64 (x7_2 + 1)) (wrap64 (x7_2 + 1)) a1 t313 _ ?side1 ?side2 A15.out).mono ?_); (case side1 => repeat ((exact (Kd.C_below HR0.out HB.out)))); (case side2 => exact HC0.out); rintro e w21 ⟨v314, rfl, ho0, hb⟩; have n0_ := Aside0.mk (Kd.R_lower ho0 (below_size (by repeat ((with_reducible (exact HB.out)))))); have n1_ := Aside0.mk (below_step (by repeat ((with_reducible (exact HB.out)))) hb); clear HB; have HO315 := n0_; have HB := n1_; clear n0_ n1_; (try clear hb); (try clear hb2); (try clear hk); (try clear hi); (try clear ho0); obtain ⟨Ao22, co22, eo22⟩ := Kd.R_slice HO315.out; subst eo22) | (go_at_call 51; (with_reducible refine (hortatorref7_Fits.calls k2 _ _ t313 false _ ?side1 ?side2 A16.out).mono ?_); (case side1 => repeat ((exact (Kd.R_reads' HO315.out).2.2))); (case side2 => exact (Kd.R_reads' HO315.out).2.1); rintro e w23 ⟨rfl, hb⟩; have n0_ := Aside0.mk (Kd.R_below (by exact HO315.out) hb); have n1_ := Aside0.mk (below_step (by repeat ((with_reducible (exact HB.out)))) hb); clear HO315; clear HB; have HO315 := n0_; have HB := n1_; clear n0_ n1_; (try clear hb); (try clear hb2); (try clear hk); (try clear hi)))
        go_ret
        exact ⟨by (rfl), by repeat ((with_reducible (exact HB.out)))⟩
      ·rw [if_neg c14] at H
       have c14b0 : decide (x7_2 < (ji13)) = false := decide_eq_false c14
       clear c14
       obtain rfl := Option.some.inj H
       go_wp2
       go_ret
       exact ⟨by (rfl), by repeat ((with_reducible (exact HB.out)))⟩

/-! ### hortatorlaw9_MostAll: function 9 -/
def hortatorlaw9_MostAll.f (k : Nat) (l0 : List (S31)) (a1 : Int) (a2 : Int) (a3 : Int) : Option (Bool) := (hortatorlaw9_begun.f k).bind fun t317 => (if t317 = true then ((hortatorlaw9_Loads.f l0).bind fun t318 => ((most_Fit.f k t318 a1 a2 a3).bind fun t321 => ((hortatorref7_Most.f k t318 a1 a2 a3).bind fun t322 => (if t321 = t322 then ((most_Tight.f k t318 a2 a3).bind fun t323 => ((hortatorref7_Tight.f k t318 a2 a3).bind fun t324 => (some (t323 == t324)))) else (none))))) else (none))
set_option maxHeartbeats 8000000 in
set_option maxRecDepth 100000 in
theorem hortatorlaw9_MostAll.calls (k : Nat) (A0 : Option Addr) (c0 : Nat) (l0 : List (S31)) (a1 : Int) (a2 : Int) (a3 : Int) (r : Bool) (w : World) (hr0 : Kd.C k31 w A0 l0.length l0) (hc0 : l0.length ≤ c0) (h : hortatorlaw9_MostAll.f k l0 a1 a2 a3 = some r) :
  Calls Tryz.prog 9 #[.slice A0 l0.length c0, .int .i64 a1, .int .i64 a2, .int .i64 a3] w fun e w' => e = .returned (.bool r) ∧ Below w.heap.size w w' := by
 have HR0 := Aside0.mk hr0
 have HC0 := Aside0.mk hc0
 clear hr0 hc0
 have HB := Aside0.mk (Below.refl w.heap.size w)
 have H : ((hortatorlaw9_begun.f k).bind fun t317 => (if t317 = true then ((hortatorlaw9_Loads.f l0).bind fun t318 => ((most_Fit.f k t318 a1 a2 a3).bind fun t321 => ((hortatorref7_Most.f k t318 a1 a2 a3).bind fun t322 => (if t321 = t322 then ((most_Tight.f k t318 a2 a3).bind fun t323 => ((hortatorref7_Tight.f k t318 a2 a3).bind fun t324 => (some (t323 == t324)))) else (none))))) else (none))) = some r := h
 clear h
 replace H := Option.bind_eq_some_iff.mp H
 obtain ⟨t317, A50, H⟩ := H
 have A5 := Aside0.mk A50
 clear A50
 by_cases c6 : t317 = true
 ·subst c6
  have H1 : ((hortatorlaw9_Loads.f l0).bind fun t318 => ((most_Fit.f k t318 a1 a2 a3).bind fun t321 => ((hortatorref7_Most.f k t318 a1 a2 a3).bind fun t322 => (if t321 = t322 then ((most_Tight.f k t318 a2 a3).bind fun t323 => ((hortatorref7_Tight.f k t318 a2 a3).bind fun t324 => (some (t323 == t324)))) else (none))))) = some r := by rw [if_pos rfl] at H; exact H
  clear H
  have H := H1
  clear H1
  replace H := Option.bind_eq_some_iff.mp H
  obtain ⟨t318, A70, H⟩ := H
  have A7 := Aside0.mk A70
  clear A70
  replace H := Option.bind_eq_some_iff.mp H
  obtain ⟨t321, A80, H⟩ := H
  have A8 := Aside0.mk A80
  clear A80
  replace H := Option.bind_eq_some_iff.mp H
  obtain ⟨t322, A90, H⟩ := H
  have A9 := Aside0.mk A90
  clear A90
  by_cases c10 : t321 = t322
  ·rw [if_pos c10] at H
   have c10b0 : (t321 == t322) = true := beq_iff_eq.mpr c10
   have c10b1 : (t321 != t322) = false := bne_eq_false_iff_eq.mpr c10
   clear c10
   replace H := Option.bind_eq_some_iff.mp H
   obtain ⟨t323, A110, H⟩ := H
   have A11 := Aside0.mk A110
   clear A110
   replace H := Option.bind_eq_some_iff.mp H
   obtain ⟨t324, A120, H⟩ := H
   have A12 := Aside0.mk A120
   clear A120
   obtain rfl := Option.some.inj H
   go_enter Tryz.func9, Tryz.ntmps9
   go_wp2_with (first | ((with_reducible refine gate_callee (f := 23) rfl ?_); refine goesL_ (some 10) rfl rfl Tryz.func23 (by kernel_rfl) rfl #[] rfl (by (try simp only [List.map_toArray, List.map_cons, List.map_nil]); (done)) ?_; (with_reducible refine (hortatorlaw9_begun.calls k  true _ A5.out).mono ?_); rintro e w13 ⟨rfl, hb⟩; refine ⟨_, rfl, ?_⟩; have n0_ := Aside0.mk (below_step (by repeat ((with_reducible (exact HB.out)))) hb); clear HB; have HB := n0_; clear n0_; (try clear hb); (try clear hb2); (try clear hk); (try clear hi)) | ((with_reducible refine gate_callee (f := 24) rfl ?_); refine goesL_ (some 14) rfl rfl Tryz.func24 (by kernel_rfl) rfl #[.slice A0 l0.length c0] rfl (by (try simp only [List.map_toArray, List.map_cons, List.map_nil]); (rfl)) ?_; (with_reducible refine (hortatorlaw9_Loads.calls _ _ l0 t318 _ ?side1 ?side2 A7.out).mono ?_); (case side1 => repeat ((exact (Kd.C_below HR0.out HB.out)))); (case side2 => exact HC0.out); rintro e w14 ⟨v319, rfl, ho0, hb⟩; refine ⟨_, rfl, ?_⟩; have n0_ := Aside0.mk (Kd.R_lower ho0 (below_size (by repeat ((with_reducible (exact HB.out)))))); have n1_ := Aside0.mk (below_step (by repeat ((with_reducible (exact HB.out)))) hb); clear HB; have HO320 := n0_; have HB := n1_; clear n0_ n1_; (try clear hb); (try clear hb2); (try clear hk); (try clear hi); (try clear ho0); obtain ⟨Ao15, co15, eo15⟩ := Kd.R_slice HO320.out; subst eo15) | ((with_reducible refine gate_callee (f := 36) rfl ?_); refine goesL_ (some 19) rfl rfl Tryz.func36 (by kernel_rfl) rfl #[.slice Ao15 t318.length co15, .int .i64 a1, .int .i64 a2, .int .i64 a3] rfl (by (try simp only [List.map_toArray, List.map_cons, List.map_nil]); (rfl)) ?_; (with_reducible refine (most_Fit.calls k _ _ t318 a1 a2 a3 t321 _ ?side1 ?side2 A8.out).mono ?_); (case side1 => repeat ((exact (Kd.R_reads' HO320.out).2.2))); (case side2 => exact (Kd.R_reads' HO320.out).2.1); rintro e w16 ⟨rfl, hb⟩; refine ⟨_, rfl, ?_⟩; have n0_ := Aside0.mk (Kd.R_below (by exact HO320.out) hb); have n1_ := Aside0.mk (below_step (by repeat ((with_reducible (exact HB.out)))) hb); clear HO320; clear HB; have HO320 := n0_; have HB := n1_; clear n0_ n1_; (try clear hb); (try clear hb2); (try clear hk); (try clear hi)) | ((with_reducible refine gate_callee (f := 37) rfl ?_); refine goesL_ (some 24) rfl rfl Tryz.func37 (by kernel_rfl) rfl #[.slice Ao15 t318.length co15, .int .i64 a1, .int .i64 a2, .int .i64 a3] rfl (by (try simp only [List.map_toArray, List.map_cons, List.map_nil]); (rfl)) ?_; (with_reducible refine (hortatorref7_Most.calls k _ _ t318 a1 a2 a3 t322 _ ?side1 ?side2 A9.out).mono ?_); (case side1 => repeat ((exact (Kd.R_reads' HO320.out).2.2))); (case side2 => exact (Kd.R_reads' HO320.out).2.1); rintro e w17 ⟨rfl, hb⟩; refine ⟨_, rfl, ?_⟩; have n0_ := Aside0.mk (Kd.R_below (by exact HO320.out) hb); have n1_ := Aside0.mk (below_step (by repeat ((with_reducible (exact HB.out)))) hb); clear HO320; clear HB; have HO320 := n0_; have HB := n1_; clear n0_ n1_; (try clear hb); (try clear hb2); (try clear hk); (try clear hi)) | (go_at_call 38; (with_reducible refine (most_Tight.calls k _ _ t318 a2 a3 t323 _ ?side1 ?side2 A11.out).mono ?_); (case side1 => repeat ((exact (Kd.R_reads' HO320.out).2.2))); (case side2 => exact (Kd.R_reads' HO320.out).2.1); rintro e w18 ⟨rfl, hb⟩; have n0_ := Aside0.mk (Kd.R_below (by exact HO320.out) hb); have n1_ := Aside0.mk (below_step (by repeat ((with_reducible (exact HB.out)))) hb); clear HO320; clear HB; have HO320 := n0_; have HB := n1_; clear n0_ n1_; (try clear hb); (try clear hb2); (try clear hk); (try clear hi)) | (go_at_call 39; (with_reducible refine (hortatorref7_Tight.calls k _ _ t318 a2 a3 t324 _ ?side1 ?side2 A12.out).mono ?_); (case side1 => repeat ((exact (Kd.R_reads' HO320.out).2.2))); (case side2 => exact (Kd.R_reads' HO320.out).2.1); rintro e w19 ⟨rfl, hb⟩; have n0_ := Aside0.mk (Kd.R_below (by exact HO320.out) hb); have n1_ := Aside0.mk (below_step (by repeat ((with_reducible (exact HB.out)))) hb); clear HO320; clear HB; have HO320 := n0_; have HB := n1_; clear n0_ n1_; (try clear hb); (try clear hb2); (try clear hk); (try clear hi)))
   go_ret
   exact ⟨by (rfl), by repeat ((with_reducible (exact HB.out)))⟩
  ·rw [if_neg c10] at H
   exact absurd H (by simp)
 ·replace c6 := Bool.eq_false_iff.mpr c6
  subst c6
  have H1 : (none) = some r := by rw [if_neg (show ¬ (false = true) by decide)] at H; exact H
  clear H
  have H := H1
  clear H1
  exact absurd H (by simp)
end Go.Proofs.YtddepomgaeadpaaGreatDoor.PAll
