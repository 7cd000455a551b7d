-- Written by a program of this session (wip/pp.py) over the kit's print, with hand-proved contracts beside it.
import Derived.Test.YtddepomgaeadpaaGreatDoorPAllx0
import Derived.Test.YtddepomgaeadpaaGreatDoorPAllx1
import Derived.Test.YtddepomgaeadpaaGreatDoorPAllx2
import Derived.Test.YtddepomgaeadpaaGreatDoorPAllx4
namespace Go.Proofs.YtddepomgaeadpaaGreatDoor.PAll
open Go.Shelf Go.Lib Go.RowKit Go.Proofs.YtddepomgaeadpaaGreatDoorW.PrintWords Go.Proofs.YtddepomgaeadpaaGreatDoorW.PrintLast Go.Proofs.YtddepomgaeadpaaGreatDoorW.PrintMore
attribute [local go_sem] max2_int min2_int max_two min_two max_three min_three max_four min_four   -- for this text's walks alone
set_option linter.unusedVariables false
set_option linter.unusedSimpArgs false

/-! ### hortatorlaw9_BusyOrder: function 13 -/
def hortatorlaw9_BusyOrder.f (k : Nat) (l0 : List (S31)) (a1 : Int) : Option (Bool) := (hortatorlaw9_begun.f k).bind fun t371 => (if t371 = true then ((hortatorlaw9_Loads.f l0).bind fun t372 => (if (t372.length : Int) = 0 then ((demand_Fits.f k ([] : List (S31))).bind fun t375 => (some t375)) else (if 0 ≤ (Int.tmod (wrap64 ((Int.tmod a1 (t372.length : Int)) + (t372.length : Int))) (t372.length : Int)) then (if (Int.tmod (wrap64 ((Int.tmod a1 (t372.length : Int)) + (t372.length : Int))) (t372.length : Int)) ≤ (t372.length : Int) then ((some (t372.drop ((Int.tmod (wrap64 ((Int.tmod a1 (t372.length : Int)) + (t372.length : Int))) (t372.length : Int)) : Int).toNat : List (S31))).bind fun y376 => (if ([] : List (S31)).length + y376.length < 5864062014805 then ((some (([] : List (S31)) ++ y376 : List (S31))).bind fun y380 => ((some (t372.take ((Int.tmod (wrap64 ((Int.tmod a1 (t372.length : Int)) + (t372.length : Int))) (t372.length : Int)) : Int).toNat : List (S31))).bind fun y383 => (if y380.length + y383.length < 5864062014805 then ((some (y380 ++ y383 : List (S31))).bind fun y387 => ((busy_Time.f k t372).bind fun bt390 => ((busy_Time.f k y387).bind fun bt392 => ((demand_First.f k t372).bind fun bt394 => ((demand_First.f k y387).bind fun bt396 => (if bt390.1 = bt392.1 then (if (bt390.2 == bt392.2) = true then (if bt394.1 = bt396.1 then (if (bt394.2 == bt396.2) = true then ((demand_Fits.f k t372).bind fun t398 => ((demand_Fits.f k y387).bind fun t399 => (some (t398 == t399)))) else (none)) else (none)) else (none)) else (none))))))) else (none)))) else (none))) else (none)) else (none)))) else (none))
def hortatorlaw9_BusyOrder.T8 : Bool × List (List Nat × List Nat) := (true, [([], []), ([], []), ([0, 1], [0, 1]), ([2], [2]), ([], []), ([], []), ([4, 5], [4, 5]), ([3, 6, 3], [3, 6]), ([7, 7, 0, 1, 2, 3, 4, 5, 6, 7], [7])])
def hortatorlaw9_BusyOrder.B8 : List Nat := [0, 0, 3, 7, 0, 0, 48, 127, 255]
theorem hortatorlaw9_BusyOrder.tab8 : rtab .any (opsOf Tryz.f13 8) = hortatorlaw9_BusyOrder.T8 := by kernel_rfl
theorem hortatorlaw9_BusyOrder.bits8 : waitsOk hortatorlaw9_BusyOrder.T8.2 hortatorlaw9_BusyOrder.B8 = true := by kernel_rfl
set_option maxHeartbeats 8000000 in
set_option maxRecDepth 100000 in
theorem hortatorlaw9_BusyOrder.calls (k : Nat) (A0 : Option Addr) (c0 : Nat) (l0 : List (S31)) (a1 : Int) (r : Bool) (w : World) (hr0 : Kd.C k31 w A0 l0.length l0) (hc0 : l0.length ≤ c0) (h : hortatorlaw9_BusyOrder.f k l0 a1 = some r) :
  Calls Tryz.prog 13 #[.slice A0 l0.length c0, .int .i64 a1] w fun e w' => e = .returned (.bool r) ∧ Below w.heap.size w w' := by
 have HR0 := Aside0.mk hr0
 have HC0 := Aside0.mk hc0
 clear hr0 hc0
 have HB := Aside0.mk (Below.refl w.heap.size w)
 have H : ((hortatorlaw9_begun.f k).bind fun t371 => (if t371 = true then ((hortatorlaw9_Loads.f l0).bind fun t372 => (if (t372.length : Int) = 0 then ((demand_Fits.f k ([] : List (S31))).bind fun t375 => (some t375)) else (if 0 ≤ (Int.tmod (wrap64 ((Int.tmod a1 (t372.length : Int)) + (t372.length : Int))) (t372.length : Int)) then (if (Int.tmod (wrap64 ((Int.tmod a1 (t372.length : Int)) + (t372.length : Int))) (t372.length : Int)) ≤ (t372.length : Int) then ((some (t372.drop ((Int.tmod (wrap64 ((Int.tmod a1 (t372.length : Int)) + (t372.length : Int))) (t372.length : Int)) : Int).toNat : List (S31))).bind fun y376 => (if ([] : List (S31)).length + y376.length < 5864062014805 then ((some (([] : List (S31)) ++ y376 : List (S31))).bind fun y380 => ((some (t372.take ((Int.tmod (wrap64 ((Int.tmod a1 (t372.length : Int)) + (t372.length : Int))) (t372.length : Int)) : Int).toNat : List (S31))).bind fun y383 => (if y380.length + y383.length < 5864062014805 then ((some (y380 ++ y383 : List (S31))).bind fun y387 => ((busy_Time.f k t372).bind fun bt390 => ((busy_Time.f k y387).bind fun bt392 => ((demand_First.f k t372).bind fun bt394 => ((demand_First.f k y387).bind fun bt396 => (if bt390.1 = bt392.1 then (if (bt390.2 == bt392.2) = true then (if bt394.1 = bt396.1 then (if (bt394.2 == bt396.2) = true then ((demand_Fits.f k t372).bind fun t398 => ((demand_Fits.f k y387).bind fun t399 => (some (t398 == t399)))) else (none)) else (none)) else (none)) else (none))))))) else (none)))) else (none))) else (none)) else (none)))) else (none))) = some r := h
 clear h
 replace H := Option.bind_eq_some_iff.mp H
 obtain ⟨t371, A30, H⟩ := H
 have A3 := Aside0.mk A30
 clear A30
 by_cases c4 : t371 = true
 ·subst c4
  have H1 : ((hortatorlaw9_Loads.f l0).bind fun t372 => (if (t372.length : Int) = 0 then ((demand_Fits.f k ([] : List (S31))).bind fun t375 => (some t375)) else (if 0 ≤ (Int.tmod (wrap64 ((Int.tmod a1 (t372.length : Int)) + (t372.length : Int))) (t372.length : Int)) then (if (Int.tmod (wrap64 ((Int.tmod a1 (t372.length : Int)) + (t372.length : Int))) (t372.length : Int)) ≤ (t372.length : Int) then ((some (t372.drop ((Int.tmod (wrap64 ((Int.tmod a1 (t372.length : Int)) + (t372.length : Int))) (t372.length : Int)) : Int).toNat : List (S31))).bind fun y376 => (if ([] : List (S31)).length + y376.length < 5864062014805 then ((some (([] : List (S31)) ++ y376 : List (S31))).bind fun y380 => ((some (t372.take ((Int.tmod (wrap64 ((Int.tmod a1 (t372.length : Int)) + (t372.length : Int))) (t372.length : Int)) : Int).toNat : List (S31))).bind fun y383 => (if y380.length + y383.length < 5864062014805 then ((some (y380 ++ y383 : List (S31))).bind fun y387 => ((busy_Time.f k t372).bind fun bt390 => ((busy_Time.f k y387).bind fun bt392 => ((demand_First.f k t372).bind fun bt394 => ((demand_First.f k y387).bind fun bt396 => (if bt390.1 = bt392.1 then (if (bt390.2 == bt392.2) = true then (if bt394.1 = bt396.1 then (if (bt394.2 == bt396.2) = true then ((demand_Fits.f k t372).bind fun t398 => ((demand_Fits.f k y387).bind fun t399 => (some (t398 == t399)))) else (none)) else (none)) else (none)) else (none))))))) else (none)))) else (none))) else (none)) else (none)))) = some r := by rw [if_pos rfl] at H; exact H
  clear H
  have H := H1
  clear H1
  replace H := Option.bind_eq_some_iff.mp H
  obtain ⟨t372, A50, H⟩ := H
  have A5 := Aside0.mk A50
  clear A50
  by_cases c6 : (t372.length : Int) = 0
  ·rw [if_pos c6] at H
   have c6b0 : ((t372.length : Int) == 0) = true := beq_iff_eq.mpr c6
   have c6b1 : ((t372.length : Int) != 0) = false := bne_eq_false_iff_eq.mpr c6
   clear c6
   replace H := Option.bind_eq_some_iff.mp H
   obtain ⟨t375, A70, H⟩ := H
   have A7 := Aside0.mk A70
   clear A70
   obtain rfl := Option.some.inj H
   go_enter Tryz.func13, Tryz.ntmps13
   go_wp2_with (first | ((with_reducible refine gate_callee (f := 23) rfl ?_); refine goesL_ (some 16) rfl rfl Tryz.func23 (by kernel_rfl) rfl #[] rfl (by (try simp only [List.map_toArray, List.map_cons, List.map_nil]); (done)) ?_; (with_reducible refine (hortatorlaw9_begun.calls k  true _ A3.out).mono ?_); rintro e w8 ⟨rfl, hb⟩; refine ⟨_, rfl, ?_⟩; have n0_ := Aside0.mk (below_step (by repeat ((with_reducible (exact HB.out)))) hb); clear HB; have HB := n0_; clear n0_; (try clear hb); (try clear hb2); (try clear hk); (try clear hi)) | ((with_reducible refine gate_callee (f := 24) rfl ?_); refine goesL_ (some 20) rfl rfl Tryz.func24 (by kernel_rfl) rfl #[.slice A0 l0.length c0] rfl (by (try simp only [List.map_toArray, List.map_cons, List.map_nil]); (rfl)) ?_; (with_reducible refine (hortatorlaw9_Loads.calls _ _ l0 t372 _ ?side1 ?side2 A5.out).mono ?_); (case side1 => repeat ((exact (Kd.C_below HR0.out HB.out)))); (case side2 => exact HC0.out); rintro e w9 ⟨v373, rfl, ho0, hb⟩; refine ⟨_, rfl, ?_⟩; have n0_ := Aside0.mk (Kd.R_lower ho0 (below_size (by repeat ((with_reducible (exact HB.out)))))); have n1_ := Aside0.mk (below_step (by repeat ((with_reducible (exact HB.out)))) hb); clear HB; have HO374 := n0_; have HB := n1_; clear n0_ n1_; (try clear hb); (try clear hb2); (try clear hk); (try clear hi); (try clear ho0); obtain ⟨Ao10, co10, eo10⟩ := Kd.R_slice HO374.out; subst eo10) | ((with_reducible refine gate_callee (f := 34) rfl ?_); refine goesL_ (some 24) rfl rfl Tryz.func34 (by kernel_rfl) rfl #[.slice none 0 0] rfl (by (try simp only [List.map_toArray, List.map_cons, List.map_nil]); (rfl)) ?_; (refine (demand_Fits.calls k _ _ ([] : List (S31)) t375 _ ?side1 ?side2 A7.out).mono ?_); (case side1 => exact Kd.C_nil _ _); (case side2 => exact Nat.le_refl _); rintro e w11 ⟨rfl, hb⟩; refine ⟨_, rfl, ?_⟩; have n0_ := Aside0.mk (Kd.R_below (by exact HO374.out) hb); have n1_ := Aside0.mk (below_step (by repeat ((with_reducible (exact HB.out)))) hb); clear HO374; clear HB; have HO374 := n0_; have HB := n1_; clear n0_ n1_; (try clear hb); (try clear hb2); (try clear hk); (try clear hi)))
   go_ret
   exact ⟨by (rfl), by repeat ((with_reducible (exact HB.out)))⟩
  ·rw [if_neg c6] at H
   have c6b0 : ((t372.length : Int) == 0) = false := beq_eq_false_iff_ne.mpr c6
   have c6b1 : ((t372.length : Int) != 0) = true := bne_iff_ne.mpr c6
   have c6b2 : ¬ (t372 = []) := fun h_ => c6 (by rw [h_]; rfl)
   obtain ⟨ji12, hji12⟩ : ∃ j_ : Int, (Int.tmod (wrap64 ((Int.tmod a1 (t372.length : Int)) + (t372.length : Int))) (t372.length : Int)) = j_ := ⟨_, rfl⟩
   replace H : (if 0 ≤ (ji12) then (if (ji12) ≤ (t372.length : Int) then ((some (t372.drop ((ji12) : Int).toNat : List (S31))).bind fun y376 => (if ([] : List (S31)).length + y376.length < 5864062014805 then ((some (([] : List (S31)) ++ y376 : List (S31))).bind fun y380 => ((some (t372.take ((ji12) : Int).toNat : List (S31))).bind fun y383 => (if y380.length + y383.length < 5864062014805 then ((some (y380 ++ y383 : List (S31))).bind fun y387 => ((busy_Time.f k t372).bind fun bt390 => ((busy_Time.f k y387).bind fun bt392 => ((demand_First.f k t372).bind fun bt394 => ((demand_First.f k y387).bind fun bt396 => (if bt390.1 = bt392.1 then (if (bt390.2 == bt392.2) = true then (if bt394.1 = bt396.1 then (if (bt394.2 == bt396.2) = true then ((demand_Fits.f k t372).bind fun t398 => ((demand_Fits.f k y387).bind fun t399 => (some (t398 == t399)))) else (none)) else (none)) else (none)) else (none))))))) else (none)))) else (none))) else (none)) else (none)) = some r := by (rw [hji12] at H; exact H)
   (try rw [hji12] at A3)
   (try rw [hji12] at A5)
   by_cases c13 : 0 ≤ (ji12)
   ·rw [if_pos c13] at H
    have c13b0 := eq_true c13
    have c13b1 : decide (0 ≤ (ji12)) = true := decide_eq_true c13
    clear c13
    by_cases c14 : (ji12) ≤ (t372.length : Int)
    ·rw [if_pos c14] at H
     have c14b0 := eq_true c14
     have c14b1 : decide ((ji12) ≤ (t372.length : Int)) = true := decide_eq_true c14
     clear c14
     obtain ⟨y376, hy376⟩ : ∃ y_ : List (S31), y_ = (t372.drop ((ji12) : Int).toNat) := ⟨_, rfl⟩
     replace H : (if ([] : List (S31)).length + y376.length < 5864062014805 then ((some (([] : List (S31)) ++ y376 : List (S31))).bind fun y380 => ((some (t372.take ((ji12) : Int).toNat : List (S31))).bind fun y383 => (if y380.length + y383.length < 5864062014805 then ((some (y380 ++ y383 : List (S31))).bind fun y387 => ((busy_Time.f k t372).bind fun bt390 => ((busy_Time.f k y387).bind fun bt392 => ((demand_First.f k t372).bind fun bt394 => ((demand_First.f k y387).bind fun bt396 => (if bt390.1 = bt392.1 then (if (bt390.2 == bt392.2) = true then (if bt394.1 = bt396.1 then (if (bt394.2 == bt396.2) = true then ((demand_Fits.f k t372).bind fun t398 => ((demand_Fits.f k y387).bind fun t399 => (some (t398 == t399)))) else (none)) else (none)) else (none)) else (none))))))) else (none)))) else (none)) = some r := by (have H2_ := (Option.bind_some _ _).symm.trans H; rw [hy376]; with_reducible exact H2_)
     have Ny376 := Aside0.mk hy376
     clear hy376
     by_cases c15 : ([] : List (S31)).length + y376.length < 5864062014805
     ·rw [if_pos c15] at H
      have LMc15 := Aside0.mk c15
      clear c15
      obtain ⟨y380, hy380⟩ : ∃ y_ : List (S31), y_ = (([] : List (S31)) ++ y376) := ⟨_, rfl⟩
      replace H : ((some (t372.take ((ji12) : Int).toNat : List (S31))).bind fun y383 => (if y380.length + y383.length < 5864062014805 then ((some (y380 ++ y383 : List (S31))).bind fun y387 => ((busy_Time.f k t372).bind fun bt390 => ((busy_Time.f k y387).bind fun bt392 => ((demand_First.f k t372).bind fun bt394 => ((demand_First.f k y387).bind fun bt396 => (if bt390.1 = bt392.1 then (if (bt390.2 == bt392.2) = true then (if bt394.1 = bt396.1 then (if (bt394.2 == bt396.2) = true then ((demand_Fits.f k t372).bind fun t398 => ((demand_Fits.f k y387).bind fun t399 => (some (t398 == t399)))) else (none)) else (none)) else (none)) else (none))))))) else (none))) = some r := by (have H2_ := (Option.bind_some _ _).symm.trans H; rw [hy380]; with_reducible exact H2_)
      have Ny380 := Aside0.mk hy380
      clear hy380
      have c16b0 := eq_true (of_decide_eq_true (by (with_reducible assumption)) : 0 ≤ (ji12))
      have c17b0 := eq_true (of_decide_eq_true (by (with_reducible assumption)) : (ji12) ≤ (t372.length : Int))
      obtain ⟨y383, hy383⟩ : ∃ y_ : List (S31), y_ = (t372.take ((ji12) : Int).toNat) := ⟨_, rfl⟩
      replace H : (if y380.length + y383.length < 5864062014805 then ((some (y380 ++ y383 : List (S31))).bind fun y387 => ((busy_Time.f k t372).bind fun bt390 => ((busy_Time.f k y387).bind fun bt392 => ((demand_First.f k t372).bind fun bt394 => ((demand_First.f k y387).bind fun bt396 => (if bt390.1 = bt392.1 then (if (bt390.2 == bt392.2) = true then (if bt394.1 = bt396.1 then (if (bt394.2 == bt396.2) = true then ((demand_Fits.f k t372).bind fun t398 => ((demand_Fits.f k y387).bind fun t399 => (some (t398 == t399)))) else (none)) else (none)) else (none)) else (none))))))) else (none)) = some r := by (have H2_ := (Option.bind_some _ _).symm.trans H; rw [hy383]; with_reducible exact H2_)
      have Ny383 := Aside0.mk hy383
      clear hy383
      by_cases c18 : y380.length + y383.length < 5864062014805
      ·rw [if_pos c18] at H
       have LMc18 := Aside0.mk c18
       clear c18
       obtain ⟨y387, hy387⟩ : ∃ y_ : List (S31), y_ = (y380 ++ y383) := ⟨_, rfl⟩
       replace H : ((busy_Time.f k t372).bind fun bt390 => ((busy_Time.f k y387).bind fun bt392 => ((demand_First.f k t372).bind fun bt394 => ((demand_First.f k y387).bind fun bt396 => (if bt390.1 = bt392.1 then (if (bt390.2 == bt392.2) = true then (if bt394.1 = bt396.1 then (if (bt394.2 == bt396.2) = true then ((demand_Fits.f k t372).bind fun t398 => ((demand_Fits.f k y387).bind fun t399 => (some (t398 == t399)))) else (none)) else (none)) else (none)) else (none)))))) = some r := by (have H2_ := (Option.bind_some _ _).symm.trans H; rw [hy387]; with_reducible exact H2_)
       have Ny387 := Aside0.mk hy387
       clear hy387
       replace H := Option.bind_eq_some_iff.mp H
       obtain ⟨⟨t390, t391⟩, A190, H⟩ := H
       have A19 := Aside0.mk A190
       clear A190
       replace H := Option.bind_eq_some_iff.mp H
       obtain ⟨⟨t392, t393⟩, A200, H⟩ := H
       have A20 := Aside0.mk A200
       clear A200
       replace H := Option.bind_eq_some_iff.mp H
       obtain ⟨⟨t394, t395⟩, A210, H⟩ := H
       have A21 := Aside0.mk A210
       clear A210
       replace H := Option.bind_eq_some_iff.mp H
       obtain ⟨⟨t396, t397⟩, A220, H⟩ := H
       have A22 := Aside0.mk A220
       clear A220
       by_cases c23 : t390 = t392
       ·rw [if_pos c23] at H
        have c23b0 : (t390 == t392) = true := beq_iff_eq.mpr c23
        have c23b1 : (t390 != t392) = false := bne_eq_false_iff_eq.mpr c23
        clear c23
        by_cases c24 : (t391 == t393) = true
        ·rw [if_pos c24] at H
         have c24b0 : (t391 == t393) = true := c24
         (try (have c24b1 : decide (t391 = t393) = true := by simpa using c24))
         (try (have c24b2 : (t391 == t393) = true := by simpa using c24))
         clear c24
         by_cases c25 : t394 = t396
         ·rw [if_pos c25] at H
          have c25b0 : (t394 == t396) = true := beq_iff_eq.mpr c25
          have c25b1 : (t394 != t396) = false := bne_eq_false_iff_eq.mpr c25
          clear c25
          by_cases c26 : (t395 == t397) = true
          ·rw [if_pos c26] at H
           have c26b0 : (t395 == t397) = true := c26
           (try (have c26b1 : decide (t395 = t397) = true := by simpa using c26))
           (try (have c26b2 : (t395 == t397) = true := by simpa using c26))
           clear c26
           replace H := Option.bind_eq_some_iff.mp H
           obtain ⟨t398, A270, H⟩ := H
           have A27 := Aside0.mk A270
           clear A270
           replace H := Option.bind_eq_some_iff.mp H
           obtain ⟨t399, A280, H⟩ := H
           have A28 := Aside0.mk A280
           clear A280
           obtain rfl := Option.some.inj H
           go_enter Tryz.func13, Tryz.ntmps13
           try go_wp2_with (first | ((with_reducible refine gate_callee (f := 23) rfl ?_); refine goesL_ (some 16) rfl rfl Tryz.func23 (by kernel_rfl) rfl #[] rfl (by (try simp only [List.map_toArray, List.map_cons, List.map_nil]); (done)) ?_; (with_reducible refine (hortatorlaw9_begun.calls k  true _ A3.out).mono ?_); rintro e w29 ⟨rfl, hb⟩; refine ⟨_, rfl, ?_⟩; have n0_ := Aside0.mk (below_step (by repeat ((with_reducible (exact HB.out)))) hb); clear HB; have HB := n0_; clear n0_; (try clear hb); (try clear hb2); (try clear hk); (try clear hi)) | ((with_reducible refine gate_callee (f := 24) rfl ?_); refine goesL_ (some 20) rfl rfl Tryz.func24 (by kernel_rfl) rfl #[.slice A0 l0.length c0] rfl (by (try simp only [List.map_toArray, List.map_cons, List.map_nil]); (rfl)) ?_; (with_reducible refine (hortatorlaw9_Loads.calls _ _ l0 t372 _ ?side1 ?side2 A5.out).mono ?_); (case side1 => repeat ((exact (Kd.C_below HR0.out HB.out)))); (case side2 => exact HC0.out); rintro e w30 ⟨v373, rfl, ho0, hb⟩; refine ⟨_, rfl, ?_⟩; have n0_ := Aside0.mk (Kd.R_lower ho0 (below_size (by repeat ((with_reducible (exact HB.out)))))); have n1_ := Aside0.mk (below_step (by repeat ((with_reducible (exact HB.out)))) hb); clear HB; have HO374 := n0_; have HB := n1_; clear n0_ n1_; (try clear hb); (try clear hb2); (try clear hk); (try clear hi); (try clear ho0); obtain ⟨Ao31, co31, eo31⟩ := Kd.R_slice HO374.out; subst eo31))
           have n0_ := Aside0.mk (Kd.R_drew HO374.out)
           have n1_ := Aside0.mk (below_drew1 HB.out)
           clear HO374
           clear HB
           have HO374 := n0_
           have HB := n1_
           clear n0_ n1_
           have q33 : ((ji12) : Int) ≤ ((t372.length : Int) : Int) := of_decide_eq_true (by (with_reducible assumption))
           obtain ⟨i033, hi033, _, hsz33, _⟩ := info_parts info31
           have hroom33 : t372.length ≤ co31 := (Kd.R_reads' HO374.out).2.1
           have hC33 : Kd.C k31 _ Ao31 t372.length t372 := (Kd.R_reads' HO374.out).2.2
           have q033 : (0 : Int) ≤ ((ji12) : Int) := of_decide_eq_true (by (with_reducible assumption))
           have hcut33 := cut_from (P := Tryz.prog) 22 31 .i64 Tryz.underlying22 hi033 3 hsz33 Ao31 t372.length co31 (ji12) q033 q33
           have hr33 := Kd.C_drop (m := ((ji12) : Int).toNat) (c := co31) hC33 (by omega) hroom33
           obtain ⟨A33, hA33⟩ : ∃ A1, A1 = (if co31 = ((ji12) : Int).toNat then Ao31 else (Ao31 : Option Addr).map (·.add (((ji12) : Int).toNat * 3))) := ⟨_, rfl⟩
           obtain ⟨c33, hc33⟩ : ∃ c1, c1 = co31 - ((ji12) : Int).toNat := ⟨_, rfl⟩
           have hy33 : y376.length = t372.length - ((ji12) : Int).toNat := (by rw [Ny376.out, List.length_drop] <;> omega)
           rw [show (t372).drop ((ji12) : Int).toNat = y376 from Ny376.out.symm] at hr33
           replace hr33 : Kd.C k31 _ A33 y376.length y376 := (by rw [hA33]; exact hr33)
           rw [← hy33, ← hA33, ← hc33] at hcut33
           have HR379 := Aside0.mk hr33
           have HC379 := Aside0.mk (show y376.length ≤ c33 from by rw [hy33, hc33]; exact Nat.sub_le_sub_right hroom33 _)
           clear hr33 hC33 hroom33 hi033 hsz33 hc33
           have KY33 := Aside0.mk hy33
           have KA33 := Aside0.mk hA33
           clear hy33 hA33
           have KL33 := Aside0.mk (show ((ji12) : Int).toNat ≤ t372.length from by omega)
           replace q33 := eq_true q33
           have q34 : ((ji12) : Int) ≤ ((t372.length : Int) : Int) := of_decide_eq_true (by (with_reducible assumption))
           obtain ⟨i034, hi034, _, hsz34, _⟩ := info_parts info31
           have hroom34 : t372.length ≤ co31 := (Kd.R_reads' HO374.out).2.1
           have hC34 : Kd.C k31 _ Ao31 t372.length t372 := (Kd.R_reads' HO374.out).2.2
           have hcut34 := cut_to (P := Tryz.prog) 22 31 .i64 Tryz.underlying22 hi034 Ao31 t372.length co31 (ji12) (of_decide_eq_true (by (with_reducible assumption))) q34 hroom34
           have hr34 := Kd.C_take (m := ((ji12) : Int).toNat) hC34 (by omega)
           have hy34 : y383.length = ((ji12) : Int).toNat := (by rw [Ny383.out, List.length_take]; omega)
           rw [← Ny383.out] at hr34
           rw [← hy34] at hcut34
           have HR386 := Aside0.mk hr34
           have HC386 := Aside0.mk (show y383.length ≤ co31 from by omega)
           clear hr34 hC34 hroom34 hi034 hsz34
           have KY34 := Aside0.mk hy34
           clear hy34
           have KL34 := Aside0.mk (show ((ji12) : Int).toNat ≤ t372.length from by omega)
           replace q34 := eq_true q34
           refine start_ (n := 9) (S := fun w' => True) (ds := []) #[false, false, false, false, false, false, false, false, false] (by kernel_rfl) rfl rfl trivial (fun hHeld => ?_); refine with_tabW hortatorlaw9_BusyOrder.tab8 hortatorlaw9_BusyOrder.bits8 (fun HT_ HW_ => ?_)
           generalize w30.drew = w32 at HO374 HB HR379 HR386 hHeld ⊢
           refine pure_ (i := 0) (N := some 35) (v := ?_) (a' := ?_) #[true, false, false, false, false, false, false, false, false] rfl rfl (any_of HT_.out (by kernel_rfl)) (fun _ _ _ h => h) (Or.inl ⟨by rfl, ?_⟩) ?_ ?_
           rotate_left
           ·intro w'
            go_simp
            with_reducible rfl
           rotate_left
           ·simp only [Act.put, List.setIfInBounds_toArray, List.set_cons_zero, List.set_cons_succ, i64_w, i32_w]
            rfl
           refine pure_ (i := 1) (N := some 36) (v := ?_) (a' := ?_) #[true, true, false, false, false, false, false, false, false] rfl rfl (any_of HT_.out (by kernel_rfl)) (fun _ _ _ h => h) (Or.inl ⟨by rfl, ?_⟩) ?_ ?_
           rotate_left
           ·intro w'
            go_simp
            with_reducible rfl
           rotate_left
           ·simp only [Act.put, List.setIfInBounds_toArray, List.set_cons_zero, List.set_cons_succ, i64_w, i32_w]
            rfl
           refine pure_ (i := 2) (N := some 37) (v := ?_) (a' := ?_) #[true, true, true, false, false, false, false, false, false] rfl rfl (any_of HT_.out (by kernel_rfl)) (fun _ _ _ h => h) (Or.inl ⟨by rfl, ?_⟩) ?_ ?_
           rotate_left
           ·intro w'
            go_simp
            with_reducible rfl
           rotate_left
           ·simp only [Act.put, List.setIfInBounds_toArray, List.set_cons_zero, List.set_cons_succ, i64_w, i32_w]
            rfl
           refine pure_ (i := 4) (N := some 39) (v := ?_) (a' := ?_) #[true, true, true, false, true, false, false, false, false] rfl rfl (any_of HT_.out (by kernel_rfl)) (fun _ _ _ h => h) (Or.inl ⟨by rfl, ?_⟩) ?_ ?_
           rotate_left
           ·intro w'
            go_simp
            with_reducible rfl
           rotate_left
           ·simp only [Act.put, List.setIfInBounds_toArray, List.set_cons_zero, List.set_cons_succ, i64_w, i32_w]
            rfl
           refine pure_ (i := 5) (N := some 40) (v := ?_) (a' := ?_) #[true, true, true, false, true, true, false, false, false] rfl rfl (any_of HT_.out (by kernel_rfl)) (fun _ _ _ h => h) (Or.inl ⟨by rfl, ?_⟩) ?_ ?_
           rotate_left
           ·intro w'
            go_simp
            with_reducible rfl
           rotate_left
           ·simp only [Act.put, List.setIfInBounds_toArray, List.set_cons_zero, List.set_cons_succ, i64_w, i32_w]
            rfl
           refine pure_ (i := 6) (N := some 41) (v := ?_) (a' := ?_) #[true, true, true, false, true, true, true, false, false] rfl rfl (any_of HT_.out (by kernel_rfl)) (fun _ _ _ h => h) (Or.inl ⟨by rfl, ?_⟩) ?_ ?_
           rotate_left
           ·intro w'
            go_simp
            with_reducible rfl
           rotate_left
           ·simp only [Act.put, List.setIfInBounds_toArray, List.set_cons_zero, List.set_cons_succ, i64_w, i32_w]
            rfl
           refine one_ (i := 3) (N := some 38) #[true, true, true, true, true, true, true, false, false] rfl rfl (one_of HT_.out (by kernel_rfl)) (by decide) (fun K hK => ?_)
           refine Kd.R_append_rows_step k31 (w0 := w) w.heap.size (by rfl) (.const (.slice none 0 0)) (.tmp 37) 22 31 (.agg #[(.int .i64 0), (.int .i64 0), (.int .i64 0)]) 24 rfl Tryz.underlying22 info31 rfl (by decide) (by omega) (.slice none 0 0) ([] : List (S31)) y376 _ _ _ (fun k_ => some k_ ≠ (.slice Ao31 t372.length co31 : Value).ownBlock) (fun _ => False) rfl rfl ?aO ?aR (fun _ _ h => h) (fun _ h => h.elim) ?aF ?aB ?aS ?aL ?_
           (case aR => repeat ((exact (by repeat ((exact HR379.out))))))
           (case aB => exact (by repeat ((with_reducible (exact HB.out)))))
           (case aF => exact (fun k_ hk => Kd.fresh' (Kd.R_lt (by exact HO374.out)) k_ hk))
           (case aO => exact ((Kd.R_nil _ _ _ _ (fun k_ => some k_ ≠ (.slice Ao31 t372.length co31 : Value).ownBlock))))
           (case aS => exact (below_size (by repeat ((with_reducible (exact HB.out))))))
           (case aL => have := LMc15.out; omega)
           intro v381 w35 ho hb hg hat
           rw [← Ny380.out] at ho
           have n0_ := Aside0.mk (Kd.R_after (Kd.R_apart_nil (by exact HO374.out)) hg hat)
           have n1_ := Aside0.mk (hb)
           have n2_ := Aside0.mk ((show Kd.C k31 w35 A33 y376.length y376 from by rw [Ny376.out, KA33.out]; exact Kd.C_drop (m := ((ji12) : Int).toNat) (c := co31) ((Kd.R_reads' (Kd.R_after (Kd.R_apart_nil (by exact HO374.out)) hg hat)).2.2) KL33.out ((Kd.R_reads' (Kd.R_after (Kd.R_apart_nil (by exact HO374.out)) hg hat)).2.1)))
           have n3_ := Aside0.mk ((show Kd.C k31 w35 Ao31 y383.length y383 from by rw [Ny383.out]; exact Kd.C_take (m := ((ji12) : Int).toNat) ((Kd.R_reads' (Kd.R_after (Kd.R_apart_nil (by exact HO374.out)) hg hat)).2.2) KL34.out))
           have n4_ := Aside0.mk (ho)
           clear HO374
           clear HB
           clear HR379
           clear HR386
           have HO374 := n0_
           have HB := n1_
           have HR379 := n2_
           have HR386 := n3_
           have HO382 := n4_
           clear n0_ n1_ n2_ n3_ n4_
           clear ho hb hg hat
           refine hK.out _ _ trivial (fun hHeld => ?_)
           clear hK K
           refine norm_ (a' := ?_) ?_ ?_
           rotate_left
           ·show Act.put _ (some 38) _ = _
            simp only [Act.put, List.setIfInBounds_toArray, List.set_cons_zero, List.set_cons_succ, i64_w, i32_w]
            rfl
           refine one_ (i := 7) (N := some 42) #[true, true, true, true, true, true, true, true, false] rfl rfl (one_of HT_.out (by kernel_rfl)) (by decide) (fun K hK => ?_)
           refine Kd.R_append_rows_step k31 (w0 := w) w.heap.size (by rfl) (.tmp 38) (.tmp 41) 22 31 (.agg #[(.int .i64 0), (.int .i64 0), (.int .i64 0)]) 24 rfl Tryz.underlying22 info31 rfl (by decide) (by omega) v381 y380 y383 _ _ _ (fun k_ => some k_ ≠ (.slice Ao31 t372.length co31 : Value).ownBlock) (fun _ => False) rfl rfl ?aO ?aR (fun _ _ h => h) (fun _ h => h.elim) ?aF ?aB ?aS ?aL ?_
           (case aR => repeat ((exact (by repeat ((exact HR386.out))))))
           (case aB => exact (by repeat ((with_reducible (exact HB.out)))))
           (case aF => exact (fun k_ hk => Kd.fresh' (Kd.R_lt (by exact HO374.out)) k_ hk))
           (case aO => exact (by exact HO382.out))
           (case aS => exact (below_size (by repeat ((with_reducible (exact HB.out))))))
           (case aL => have := LMc18.out; omega)
           intro v388 w36 ho hb hg hat
           rw [← Ny387.out] at ho
           have n0_ := Aside0.mk (Kd.R_after (ok := (fun _ => True)) (by exact HO374.out) hg hat)
           have n1_ := Aside0.mk (hb)
           have n2_ := Aside0.mk ((show Kd.C k31 w36 A33 y376.length y376 from by rw [Ny376.out, KA33.out]; exact Kd.C_drop (m := ((ji12) : Int).toNat) (c := co31) ((Kd.R_reads' (Kd.R_after (ok := (fun _ => True)) (by exact HO374.out) hg hat)).2.2) KL33.out ((Kd.R_reads' (Kd.R_after (ok := (fun _ => True)) (by exact HO374.out) hg hat)).2.1)))
           have n3_ := Aside0.mk ((show Kd.C k31 w36 Ao31 y383.length y383 from by rw [Ny383.out]; exact Kd.C_take (m := ((ji12) : Int).toNat) ((Kd.R_reads' (Kd.R_after (ok := (fun _ => True)) (by exact HO374.out) hg hat)).2.2) KL34.out))
           have n4_ := Aside0.mk (ho)
           clear HO374
           clear HB
           clear HR379
           clear HR386
           clear HO382
           have HO374 := n0_
           have HB := n1_
           have HR379 := n2_
           have HR386 := n3_
           have HO389 := n4_
           clear n0_ n1_ n2_ n3_ n4_
           clear ho hb hg hat
           refine hK.out _ _ trivial (fun hHeld => ?_)
           clear hK K
           refine norm_ (a' := ?_) ?_ ?_
           rotate_left
           ·show Act.put _ (some 42) _ = _
            simp only [Act.put, List.setIfInBounds_toArray, List.set_cons_zero, List.set_cons_succ, i64_w, i32_w]
            rfl
           refine pure_ (i := 8) (N := some 7) (v := ?_) (a' := ?_) #[true, true, true, true, true, true, true, true, true] rfl rfl (any_of HT_.out (by kernel_rfl)) (fun _ _ _ h => h) (Or.inl ⟨by rfl, ?_⟩) ?_ ?_
           rotate_left
           ·intro w'
            go_simp
            with_reducible rfl
           rotate_left
           ·simp only [Act.put, List.setIfInBounds_toArray, List.set_cons_zero, List.set_cons_succ, i64_w, i32_w]
            rfl
           refine done_ (done_of HT_.out (by kernel_rfl)) ?_
           try go_wp2_with (first | ((with_reducible refine gate_callee (f := 25) rfl ?_); refine goesL_ (some 45) rfl rfl Tryz.func25 (by kernel_rfl) rfl #[.slice Ao31 t372.length co31] rfl (by (try simp only [List.map_toArray, List.map_cons, List.map_nil]); (rfl)) ?_; (with_reducible refine (busy_Time.calls k _ _ t372 t390 t391 _ ?side1 ?side2 A19.out).mono ?_); (case side1 => repeat ((exact (Kd.R_reads' HO374.out).2.2))); (case side2 => exact (Kd.R_reads' HO374.out).2.1); rintro e w37 ⟨rfl, hb⟩; refine ⟨_, rfl, ?_⟩; have n0_ := Aside0.mk (Kd.R_below (by exact HO374.out) hb); have n1_ := Aside0.mk (Kd.R_below (by exact HO389.out) hb); have n2_ := Aside0.mk (Kd.C_below (by (with_reducible exact HR379.out)) hb); have n3_ := Aside0.mk (Kd.C_below (by (with_reducible exact HR386.out)) hb); have n4_ := Aside0.mk (below_step (by repeat ((with_reducible (exact HB.out)))) hb); clear HO374; clear HO389; clear HR379; clear HR386; clear HB; have HO374 := n0_; have HO389 := n1_; have HR379 := n2_; have HR386 := n3_; have HB := n4_; clear n0_ n1_ n2_ n3_ n4_; (try clear hb); (try clear hb2); (try clear hk); (try clear hi); obtain ⟨Ao38, co38, eo38⟩ := Kd.R_slice HO389.out; subst eo38) | ((with_reducible refine gate_callee (f := 25) rfl ?_); refine goesL_ (some 50) rfl rfl Tryz.func25 (by kernel_rfl) rfl #[.slice Ao38 y387.length co38] rfl (by (try simp only [List.map_toArray, List.map_cons, List.map_nil]); (rfl)) ?_; (with_reducible refine (busy_Time.calls k _ _ y387 t392 t393 _ ?side1 ?side2 A20.out).mono ?_); (case side1 => repeat ((exact (Kd.R_reads' HO389.out).2.2))); (case side2 => exact (Kd.R_reads' HO389.out).2.1); rintro e w39 ⟨rfl, hb⟩; refine ⟨_, rfl, ?_⟩; have n0_ := Aside0.mk (Kd.R_below (by exact HO374.out) hb); have n1_ := Aside0.mk (Kd.R_below (by exact HO389.out) hb); have n2_ := Aside0.mk (Kd.C_below (by (with_reducible exact HR379.out)) hb); have n3_ := Aside0.mk (Kd.C_below (by (with_reducible exact HR386.out)) hb); have n4_ := Aside0.mk (below_step (by repeat ((with_reducible (exact HB.out)))) hb); clear HO374; clear HO389; clear HR379; clear HR386; clear HB; have HO374 := n0_; have HO389 := n1_; have HR379 := n2_; have HR386 := n3_; have HB := n4_; clear n0_ n1_ n2_ n3_ n4_; (try clear hb); (try clear hb2); (try clear hk); (try clear hi)) | ((with_reducible refine gate_callee (f := 30) rfl ?_); refine goesL_ (some 55) rfl rfl Tryz.func30 (by kernel_rfl) rfl #[.slice Ao31 t372.length co31] rfl (by (try simp only [List.map_toArray, List.map_cons, List.map_nil]); (rfl)) ?_; (with_reducible refine (demand_First.calls k _ _ t372 t394 t395 _ ?side1 ?side2 A21.out).mono ?_); (case side1 => repeat ((exact (Kd.R_reads' HO374.out).2.2))); (case side2 => exact (Kd.R_reads' HO374.out).2.1); rintro e w40 ⟨rfl, hb⟩; refine ⟨_, rfl, ?_⟩; have n0_ := Aside0.mk (Kd.R_below (by exact HO374.out) hb); have n1_ := Aside0.mk (Kd.R_below (by exact HO389.out) hb); have n2_ := Aside0.mk (Kd.C_below (by (with_reducible exact HR379.out)) hb); have n3_ := Aside0.mk (Kd.C_below (by (with_reducible exact HR386.out)) hb); have n4_ := Aside0.mk (below_step (by repeat ((with_reducible (exact HB.out)))) hb); clear HO374; clear HO389; clear HR379; clear HR386; clear HB; have HO374 := n0_; have HO389 := n1_; have HR379 := n2_; have HR386 := n3_; have HB := n4_; clear n0_ n1_ n2_ n3_ n4_; (try clear hb); (try clear hb2); (try clear hk); (try clear hi)) | ((with_reducible refine gate_callee (f := 30) rfl ?_); refine goesL_ (some 60) rfl rfl Tryz.func30 (by kernel_rfl) rfl #[.slice Ao38 y387.length co38] rfl (by (try simp only [List.map_toArray, List.map_cons, List.map_nil]); (rfl)) ?_; (with_reducible refine (demand_First.calls k _ _ y387 t396 t397 _ ?side1 ?side2 A22.out).mono ?_); (case side1 => repeat ((exact (Kd.R_reads' HO389.out).2.2))); (case side2 => exact (Kd.R_reads' HO389.out).2.1); rintro e w41 ⟨rfl, hb⟩; refine ⟨_, rfl, ?_⟩; have n0_ := Aside0.mk (Kd.R_below (by exact HO374.out) hb); have n1_ := Aside0.mk (Kd.R_below (by exact HO389.out) hb); have n2_ := Aside0.mk (Kd.C_below (by (with_reducible exact HR379.out)) hb); have n3_ := Aside0.mk (Kd.C_below (by (with_reducible exact HR386.out)) hb); have n4_ := Aside0.mk (below_step (by repeat ((with_reducible (exact HB.out)))) hb); clear HO374; clear HO389; clear HR379; clear HR386; clear HB; have HO374 := n0_; have HO389 := n1_; have HR379 := n2_; have HR386 := n3_; have HB := n4_; clear n0_ n1_ n2_ n3_ n4_; (try clear hb); (try clear hb2); (try clear hk); (try clear hi)) | (go_at_call 34; (with_reducible refine (demand_Fits.calls k _ _ t372 t398 _ ?side1 ?side2 A27.out).mono ?_); (case side1 => repeat ((exact (Kd.R_reads' HO374.out).2.2))); (case side2 => exact (Kd.R_reads' HO374.out).2.1); rintro e w42 ⟨rfl, hb⟩; have n0_ := Aside0.mk (Kd.R_below (by exact HO374.out) hb); have n1_ := Aside0.mk (Kd.R_below (by exact HO389.out) hb); have n2_ := Aside0.mk (Kd.C_below (by (with_reducible exact HR379.out)) hb); have n3_ := Aside0.mk (Kd.C_below (by (with_reducible exact HR386.out)) hb); have n4_ := Aside0.mk (below_step (by repeat ((with_reducible (exact HB.out)))) hb); clear HO374; clear HO389; clear HR379; clear HR386; clear HB; have HO374 := n0_; have HO389 := n1_; have HR379 := n2_; have HR386 := n3_; have HB := n4_; clear n0_ n1_ n2_ n3_ n4_; (try clear hb); (try clear hb2); (try clear hk); (try clear hi)) | (go_at_call 34; (with_reducible refine (demand_Fits.calls k _ _ y387 t399 _ ?side1 ?side2 A28.out).mono ?_); (case side1 => repeat ((exact (Kd.R_reads' HO389.out).2.2))); (case side2 => exact (Kd.R_reads' HO389.out).2.1); rintro e w43 ⟨rfl, hb⟩; have n0_ := Aside0.mk (Kd.R_below (by exact HO374.out) hb); have n1_ := Aside0.mk (Kd.R_below (by exact HO389.out) hb); have n2_ := Aside0.mk (Kd.C_below (by (with_reducible exact HR379.out)) hb); have n3_ := Aside0.mk (Kd.C_below (by (with_reducible exact HR386.out)) hb); have n4_ := Aside0.mk (below_step (by repeat ((with_reducible (exact HB.out)))) hb); clear HO374; clear HO389; clear HR379; clear HR386; clear HB; have HO374 := n0_; have HO389 := n1_; have HR379 := n2_; have HR386 := n3_; have HB := n4_; clear n0_ n1_ n2_ n3_ n4_; (try clear hb); (try clear hb2); (try clear hk); (try clear hi)))
           go_ret
           exact ⟨by (rfl), by repeat ((with_reducible (exact HB.out)))⟩
          ·rw [if_neg c26] at H
           exact absurd H (by simp)
         ·rw [if_neg c25] at H
          exact absurd H (by simp)
        ·rw [if_neg c24] at H
         exact absurd H (by simp)
       ·rw [if_neg c23] at H
        exact absurd H (by simp)
      ·rw [if_neg c18] at H
       exact absurd H (by simp)
     ·rw [if_neg c15] at H
      exact absurd H (by simp)
    ·rw [if_neg c14] at H
     exact absurd H (by simp)
   ·rw [if_neg c13] at H
    exact absurd H (by simp)
 ·replace c4 := Bool.eq_false_iff.mpr c4
  subst c4
  have H1 : (none) = some r := by rw [if_neg (show ¬ (false = true) by decide)] at H; exact H
  clear H
  have H := H1
  clear H1
  exact absurd H (by simp)

end Go.Proofs.YtddepomgaeadpaaGreatDoor.PAll
