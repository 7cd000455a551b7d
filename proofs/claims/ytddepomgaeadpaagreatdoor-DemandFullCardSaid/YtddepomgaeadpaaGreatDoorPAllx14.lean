-- Written by a program of this session (wip/pp.py) over the kit's print, with hand-proved contracts beside it.
import Derived.Test.YtddepomgaeadpaaGreatDoorPAllx0
import Derived.Test.YtddepomgaeadpaaGreatDoorPAllx1
import Derived.Test.YtddepomgaeadpaaGreatDoorPAllx2
import Derived.Test.YtddepomgaeadpaaGreatDoorPAllx4
namespace Go.Proofs.YtddepomgaeadpaaGreatDoor.PAll
open Go.Shelf Go.Lib Go.RowKit Go.Proofs.YtddepomgaeadpaaGreatDoorW.PrintWords Go.Proofs.YtddepomgaeadpaaGreatDoorW.PrintLast Go.Proofs.YtddepomgaeadpaaGreatDoorW.PrintMore
attribute [local go_sem] max2_int min2_int max_two min_two max_three min_three max_four min_four   -- for this text's walks alone
set_option linter.unusedVariables false
set_option linter.unusedSimpArgs false

/-! ### hortatorlaw9_DemandFull: function 14 -/
mutual
def hortatorlaw9_DemandFull.j1 : Nat → Int → Int → List (S31) → Option (Bool)
 | 0, _, _, _ => none
 | k + 1, x1, x6, x7 => if x6 > 0 then (if x7.length < 5864062014805 then (hortatorlaw9_DemandFull.j2 k x1 (x7 ++ [(⟨x6, x1, x1⟩ : S31)])) else (none)) else (hortatorlaw9_DemandFull.j2 k x1 x7)
def hortatorlaw9_DemandFull.j2 : Nat → Int → List (S31) → Option (Bool)
 | 0, _, _ => none
 | k + 1, x1, x7 => (busy_Time.f k x7).bind fun bt408 => ((hortatorlaw9_Loads.f x7).bind fun t410 => (if t410.length < 5864062014805 then ((demand_Fits.f k x7).bind fun t416 => (if t416 = true then (if bt408.2 = true then (if bt408.1 = x1 then ((demand_Bound.f x7 x1).bind fun t417 => (if t417 = x1 then ((demand_Fits.f k (t410 ++ [(⟨1, x1, x1⟩ : S31)])).bind fun t418 => (some (!t418))) else (none))) else (none)) else (none)) else (none))) else (none)))
def hortatorlaw9_DemandFull.l0 : Nat → List Int → Int → Int → List (S31) → Int → Option (Bool)
 | 0, _, _, _, _, _ => none
 | k + 1, x0, x1, x6, x7, x8 => if x8 < (x0.length : Int) then (if x8 < 9 then (if x6 > 1 then (if 0 ≤ x8 then (if x6 = 0 then (none) else (if x7.length < 5864062014805 then (hortatorlaw9_DemandFull.l0 k x0 x1 (wrap64 (x6 - (wrap64 (1 + (Int.tmod (Go.bits .and .i64 (rd x0 x8) 63) x6))))) (x7 ++ [(⟨wrap64 (1 + (Int.tmod (Go.bits .and .i64 (rd x0 x8) 63) x6)), x1, x1⟩ : S31)]) (wrap64 (x8 + 1))) else (none))) else (none)) else (hortatorlaw9_DemandFull.j1 k x1 x6 x7)) else (hortatorlaw9_DemandFull.j1 k x1 x6 x7)) else (hortatorlaw9_DemandFull.j1 k x1 x6 x7)
end
def hortatorlaw9_DemandFull.f (k : Nat) (l0 : List Int) (a1 : Int) : Option (Bool) := (hortatorlaw9_begun.f k).bind fun t400 => (if t400 = true then (hortatorlaw9_DemandFull.l0 k l0 (wrap64 (2 + (Go.bits .and .i64 a1 63))) (wrap64 (2 + (Go.bits .and .i64 a1 63))) ([] : List (S31)) 0) else (none))
set_option maxHeartbeats 8000000 in
set_option maxRecDepth 100000 in
theorem hortatorlaw9_DemandFull.calls (k : Nat) (A0 : Option Addr) (c0 : Nat) (l0 : List Int) (a1 : Int) (r : Bool) (w : World) (hr0 : Kd.C (Kd.int .i64) w A0 l0.length l0) (hc0 : l0.length ≤ c0) (h : hortatorlaw9_DemandFull.f k l0 a1 = some r) :
  Calls Tryz.prog 14 #[.slice A0 l0.length c0, .int .i64 a1] w fun e w' => e = .returned (.bool r) ∧ Below w.heap.size w w' := by
 have hu31 := Tryz.underlying31
 have HR0 := Aside0.mk hr0
 have HC0 := Aside0.mk hc0
 clear hr0 hc0
 have HB := Aside0.mk (Below.refl w.heap.size w)
 have H : ((hortatorlaw9_begun.f k).bind fun t400 => (if t400 = true then (hortatorlaw9_DemandFull.l0 k l0 (wrap64 (2 + (Go.bits .and .i64 a1 63))) (wrap64 (2 + (Go.bits .and .i64 a1 63))) ([] : List (S31)) 0) else (none))) = some r := h
 clear h
 replace H := Option.bind_eq_some_iff.mp H
 obtain ⟨t400, A30, H⟩ := H
 have A3 := Aside0.mk A30
 clear A30
 by_cases c4 : t400 = true
 ·subst c4
  have H1 : (hortatorlaw9_DemandFull.l0 k l0 (wrap64 (2 + (Go.bits .and .i64 a1 63))) (wrap64 (2 + (Go.bits .and .i64 a1 63))) ([] : List (S31)) 0) = some r := by rw [if_pos rfl] at H; exact H
  clear H
  have H := H1
  clear H1
  have HC5 := Aside0.mk H
  clear H
  go_enter Tryz.func14, Tryz.ntmps14
  go_upto_block 0 with (((with_reducible refine gate_callee (f := 23) rfl ?_); refine goesL_ (some 13) rfl rfl Tryz.func23 (by kernel_rfl) rfl #[] rfl (by (try simp only [List.map_toArray, List.map_cons, List.map_nil]); (done)) ?_; (with_reducible refine (hortatorlaw9_begun.calls k  true _ A3.out).mono ?_); rintro e w6 ⟨rfl, hb⟩; refine ⟨_, rfl, ?_⟩; have n0_ := Aside0.mk (below_step (by repeat ((with_reducible (exact HB.out)))) hb); clear HB; have HB := n0_; clear n0_; (try clear hb); (try clear hb2); (try clear hk); (try clear hi)))
  (try simp only [Act.put, List.setIfInBounds_toArray, List.set_cons_zero, List.set_cons_succ])
  go_cut [6, 7] (fun v6 v7 wc => ∃ (kq : Nat) (x6_4 : Int) (x7_4 : List (S31)), v6 = .int .i64 x6_4 ∧ Aside0 (hortatorlaw9_DemandFull.j1 kq (wrap64 (2 + (Go.bits .and .i64 a1 63))) x6_4 x7_4 = some r) ∧ Aside0 (kq ≤ k) ∧ Aside0 (Kd.R k31 31 wc w.heap.size (fun _ => True) v7 x7_4) ∧ Aside0 (Below w.heap.size w wc))
  case first =>
   have H := HC5.out
   clear HC5
   have H' := Aside0.mk H
   clear H
   go_wp2
   go_loopg [6, 7, 8] k (fun kq v6 v7 v8 w' => ∃ (x6_1 : Int) (x7_1 : List (S31)) (x8_1 : Int), v6 = .int .i64 x6_1 ∧ v8 = .int .i64 x8_1 ∧ Aside0 (hortatorlaw9_DemandFull.l0 kq l0 (wrap64 (2 + (Go.bits .and .i64 a1 63))) x6_1 x7_1 x8_1 = some r) ∧ Aside0 (kq ≤ k) ∧ Aside0 (Kd.R k31 31 w' w.heap.size (fun _ => True) v7 x7_1) ∧ Aside0 (Below w.heap.size w w'))
   case atStart => exact ⟨(wrap64 (2 + (Go.bits .and .i64 a1 63))), (([] : List (S31))), (0), (by (rfl)), (by (rfl)), H', ⟨Nat.le_refl _⟩, ⟨by (exact Kd.R_nil _ _ _ _ _)⟩, ⟨by repeat ((with_reducible (exact HB.out)))⟩⟩
   case round =>
    clear H'
    obtain ⟨x6_1, x7_1, x8_1, rfl, rfl, HA, HK1, HO_7, HB⟩ := hrel
    cases gk with
    | zero => exact absurd HA.out (by simp [hortatorlaw9_DemandFull.l0])
    | succ k1 =>
     have H := HA.out
     clear HA
     simp only [hortatorlaw9_DemandFull.l0] at H
     by_cases c7 : x8_1 < (l0.length : Int)
     ·rw [if_pos c7] at H
      have c7b0 : decide (x8_1 < (l0.length : Int)) = true := decide_eq_true c7
      clear c7
      ((skip))
      by_cases c8 : x8_1 < 9
      ·rw [if_pos c8] at H
       have c8b0 : decide (x8_1 < 9) = true := decide_eq_true c8
       clear c8
       by_cases c9 : x6_1 > 1
       ·rw [if_pos c9] at H
        have c9b0 : decide (1 < x6_1) = true := decide_eq_true c9
        clear c9
        by_cases c10 : 0 ≤ x8_1
        ·rw [if_pos c10] at H
         have c10b0 : decide (0 ≤ x8_1) = true := decide_eq_true c10
         clear c10
         by_cases c11 : x6_1 = 0
         ·rw [if_pos c11] at H
          exact absurd H (by simp)
         ·rw [if_neg c11] at H
          have c11b0 : (x6_1 == 0) = false := beq_eq_false_iff_ne.mpr c11
          have c11b1 : (x6_1 != 0) = true := bne_iff_ne.mpr c11
          by_cases c12 : x7_1.length < 5864062014805
          ·rw [if_pos c12] at H
           have LMc12 := Aside0.mk c12
           clear c12
           obtain ⟨y402, hy402⟩ : ∃ y_ : List (S31), y_ = (x7_1 ++ [(⟨wrap64 (1 + (Int.tmod (Go.bits .and .i64 (rd l0 x8_1) 63) x6_1)), (wrap64 (2 + (Go.bits .and .i64 a1 63))), (wrap64 (2 + (Go.bits .and .i64 a1 63)))⟩ : S31)]) := ⟨_, rfl⟩
           replace H : (hortatorlaw9_DemandFull.l0 k1 l0 (wrap64 (2 + (Go.bits .and .i64 a1 63))) (wrap64 (x6_1 - (wrap64 (1 + (Int.tmod (Go.bits .and .i64 (rd l0 x8_1) 63) x6_1))))) y402 (wrap64 (x8_1 + 1))) = some r := by (rw [hy402]; with_reducible exact H)
           have Ny402 := Aside0.mk hy402
           clear hy402
           have H' := Aside0.mk H
           clear H
           have p401 : 0 ≤ (x8_1 : Int) := of_decide_eq_true (by (with_reducible assumption))
           have q401 : x8_1 < (l0.length : Int) := of_decide_eq_true (by (with_reducible assumption))
           obtain ⟨ad401, e401, hx401_0⟩ := Kd.at_int HR0.out x8_1 p401 q401
           cases e401
           replace hx401_0 := (HB.out.cell (World.block_lt_of_cell? w _ hx401_0)).trans hx401_0
           replace p401 := eq_true p401
           replace q401 := eq_true q401
           go_wp2_with (((with_reducible refine gate_builtin (b := .append) (xs := #[.tmp 42, .tmp 47]) rfl ?_); at_builtin; refine Kd.R_append k31 (w0 := w) w.heap.size rfl (.tmp 42) (.tmp 47) 22 31 (.agg #[(.int .i64 0), (.int .i64 0), (.int .i64 0)]) 24 rfl Tryz.underlying22 info31 rfl (by decide) (by omega) u7 x7_1 (⟨wrap64 (1 + (Int.tmod (Go.bits .and .i64 (rd l0 x8_1) 63) x6_1)), (wrap64 (2 + (Go.bits .and .i64 a1 63))), (wrap64 (2 + (Go.bits .and .i64 a1 63)))⟩ : S31) [.int .i64 (wrap64 (1 + (Int.tmod (Go.bits .and .i64 (rd l0 x8_1) 63) x6_1))), .int .i64 (wrap64 (2 + (Go.bits .and .i64 a1 63))), .int .i64 (wrap64 (2 + (Go.bits .and .i64 a1 63)))] (fun _ => True) (fun _ => False) rfl rfl ?aP (fun _ hk => hk.elim) ?aF ?aO ?aB ?aS ?aL ?_; (case aP => exact k31_mkM _ _ _ (⟨wrap64 (1 + (Int.tmod (Go.bits .and .i64 (rd l0 x8_1) 63) x6_1)), (wrap64 (2 + (Go.bits .and .i64 a1 63))), (wrap64 (2 + (Go.bits .and .i64 a1 63)))⟩ : S31)); (case aB => exact (by repeat ((with_reducible (exact HB.out))))); (case aF => exact (fun _ _ => trivial)); (case aO => exact (by exact HO_7.out)); (case aS => exact (below_size (by repeat ((with_reducible (exact HB.out)))))); (case aL => have := LMc12.out; omega); intro v403 w13 ho hb hg hat; rw [← Ny402.out] at ho; have n0_ := Aside0.mk (hb); have n1_ := Aside0.mk (ho); clear HB; clear HO_7; have HB := n0_; have HO404 := n1_; clear n0_ n1_; clear ho hb hg hat))
           go_roundg k1
           case measure => have := HK1.out; omega
           case rel => exact ⟨(wrap64 (x6_1 - (wrap64 (1 + (Int.tmod (Go.bits .and .i64 (rd l0 x8_1) 63) x6_1))))), (y402), (wrap64 (x8_1 + 1)), (by (rfl)), (by (rfl)), H', ⟨by have := HK1.out; omega⟩, ⟨by exact HO404.out⟩, ⟨by repeat ((with_reducible (exact HB.out)))⟩⟩
          ·rw [if_neg c12] at H
           exact absurd H (by simp)
        ·rw [if_neg c10] at H
         exact absurd H (by simp)
       ·rw [if_neg c9] at H
        have c9b0 : decide (1 < x6_1) = false := decide_eq_false c9
        clear c9
        have H' := Aside0.mk H
        clear H
        go_wp2
        go_meet
        case rel => exact ⟨_, (x6_1), (x7_1), (by (rfl)), H', ⟨by have := HK1.out; (omega)⟩, ⟨by exact HO_7.out⟩, ⟨by repeat ((with_reducible (exact HB.out)))⟩⟩
      ·rw [if_neg c8] at H
       have c8b0 : decide (x8_1 < 9) = false := decide_eq_false c8
       clear c8
       have H' := Aside0.mk H
       clear H
       go_wp2
       go_meet
       case rel => exact ⟨_, (x6_1), (x7_1), (by (rfl)), H', ⟨by have := HK1.out; (omega)⟩, ⟨by exact HO_7.out⟩, ⟨by repeat ((with_reducible (exact HB.out)))⟩⟩
     ·rw [if_neg c7] at H
      have c7b0 : decide (x8_1 < (l0.length : Int)) = false := decide_eq_false c7
      clear c7
      ((skip))
      have H' := Aside0.mk H
      clear H
      go_wp2
      go_meet
      case rel => exact ⟨_, (x6_1), (x7_1), (by (rfl)), H', ⟨by have := HK1.out; (omega)⟩, ⟨by exact HO_7.out⟩, ⟨by repeat ((with_reducible (exact HB.out)))⟩⟩
  case rest =>
   clear HC5
   obtain ⟨kq, x6_4, x7_4, rfl, HA, HJ4, HO_7, HB⟩ := hcut
   cases kq with
   | zero => exact absurd HA.out (by simp [hortatorlaw9_DemandFull.j1])
   | succ kj4 =>
    have H := HA.out
    clear HA
    simp only [hortatorlaw9_DemandFull.j1] at H
    have HC14 := Aside0.mk H
    clear H
    go_upto_if 53 with (fail)
    go_cut [7] (fun v7 wc => ∃ (kq : Nat) (x7_13 : List (S31)), Aside0 (hortatorlaw9_DemandFull.j2 kq (wrap64 (2 + (Go.bits .and .i64 a1 63))) x7_13 = some r) ∧ Aside0 (kq ≤ kj4) ∧ Aside0 (Kd.R k31 31 wc w.heap.size (fun _ => True) v7 x7_13) ∧ Aside0 (Below w.heap.size w wc))
    case first =>
     have H := HC14.out
     clear HC14
     by_cases c15 : x6_4 > 0
     ·rw [if_pos c15] at H
      have c15b0 : decide (0 < x6_4) = true := decide_eq_true c15
      clear c15
      ((rw [c15b0]))
      by_cases c16 : x7_4.length < 5864062014805
      ·rw [if_pos c16] at H
       have LMc16 := Aside0.mk c16
       clear c16
       obtain ⟨y405, hy405⟩ : ∃ y_ : List (S31), y_ = (x7_4 ++ [(⟨x6_4, (wrap64 (2 + (Go.bits .and .i64 a1 63))), (wrap64 (2 + (Go.bits .and .i64 a1 63)))⟩ : S31)]) := ⟨_, rfl⟩
       replace H : (hortatorlaw9_DemandFull.j2 kj4 (wrap64 (2 + (Go.bits .and .i64 a1 63))) y405) = some r := by (rw [hy405]; with_reducible exact H)
       have Ny405 := Aside0.mk hy405
       clear hy405
       have H' := Aside0.mk H
       clear H
       go_wp2_with (((with_reducible refine gate_builtin (b := .append) (xs := #[.tmp 54, .tmp 59]) rfl ?_); at_builtin; refine Kd.R_append k31 (w0 := w) w.heap.size rfl (.tmp 54) (.tmp 59) 22 31 (.agg #[(.int .i64 0), (.int .i64 0), (.int .i64 0)]) 24 rfl Tryz.underlying22 info31 rfl (by decide) (by omega) u7 x7_4 (⟨x6_4, (wrap64 (2 + (Go.bits .and .i64 a1 63))), (wrap64 (2 + (Go.bits .and .i64 a1 63)))⟩ : S31) [.int .i64 x6_4, .int .i64 (wrap64 (2 + (Go.bits .and .i64 a1 63))), .int .i64 (wrap64 (2 + (Go.bits .and .i64 a1 63)))] (fun _ => True) (fun _ => False) rfl rfl ?aP (fun _ hk => hk.elim) ?aF ?aO ?aB ?aS ?aL ?_; (case aP => exact k31_mkM _ _ _ (⟨x6_4, (wrap64 (2 + (Go.bits .and .i64 a1 63))), (wrap64 (2 + (Go.bits .and .i64 a1 63)))⟩ : S31)); (case aB => exact (by repeat ((with_reducible (exact HB.out))))); (case aF => exact (fun _ _ => trivial)); (case aO => exact (by exact HO_7.out)); (case aS => exact (below_size (by repeat ((with_reducible (exact HB.out)))))); (case aL => have := LMc16.out; omega); intro v406 w17 ho hb hg hat; rw [← Ny405.out] at ho; have n0_ := Aside0.mk (hb); have n1_ := Aside0.mk (ho); clear HB; clear HO_7; have HB := n0_; have HO407 := n1_; clear n0_ n1_; clear ho hb hg hat))
       go_meet
       case rel => exact ⟨_, (y405), H', ⟨by have := HJ4.out; (omega)⟩, ⟨by exact HO407.out⟩, ⟨by repeat ((with_reducible (exact HB.out)))⟩⟩
      ·rw [if_neg c16] at H
       exact absurd H (by simp)
     ·rw [if_neg c15] at H
      have c15b0 : decide (0 < x6_4) = false := decide_eq_false c15
      clear c15
      ((rw [c15b0]))
      have H' := Aside0.mk H
      clear H
      go_wp2
      go_meet
      case rel => exact ⟨_, (x7_4), H', ⟨by have := HJ4.out; (omega)⟩, ⟨by exact HO_7.out⟩, ⟨by repeat ((with_reducible (exact HB.out)))⟩⟩
    case rest =>
     clear HC14
     obtain ⟨kq, x7_13, HA, HJ13, HO_7, HB⟩ := hcut
     cases kq with
     | zero => exact absurd HA.out (by simp [hortatorlaw9_DemandFull.j2])
     | succ kj13 =>
      have H := HA.out
      clear HA
      simp only [hortatorlaw9_DemandFull.j2] at H
      replace H := Option.bind_eq_some_iff.mp H
      obtain ⟨⟨t408, t409⟩, A180, H⟩ := H
      have A18 := Aside0.mk A180
      clear A180
      replace H := Option.bind_eq_some_iff.mp H
      obtain ⟨t410, A190, H⟩ := H
      have A19 := Aside0.mk A190
      clear A190
      by_cases c20 : t410.length < 5864062014805
      ·rw [if_pos c20] at H
       have LMc20 := Aside0.mk c20
       clear c20
       obtain ⟨y413, hy413⟩ : ∃ y_ : List (S31), y_ = (t410 ++ [(⟨1, (wrap64 (2 + (Go.bits .and .i64 a1 63))), (wrap64 (2 + (Go.bits .and .i64 a1 63)))⟩ : S31)]) := ⟨_, rfl⟩
       replace H : ((demand_Fits.f kj13 x7_13).bind fun t416 => (if t416 = true then (if t409 = true then (if t408 = (wrap64 (2 + (Go.bits .and .i64 a1 63))) then ((demand_Bound.f x7_13 (wrap64 (2 + (Go.bits .and .i64 a1 63)))).bind fun t417 => (if t417 = (wrap64 (2 + (Go.bits .and .i64 a1 63))) then ((demand_Fits.f kj13 y413).bind fun t418 => (some (!t418))) else (none))) else (none)) else (none)) else (none))) = some r := by (rw [hy413]; with_reducible exact H)
       have Ny413 := Aside0.mk hy413
       clear hy413
       replace H := Option.bind_eq_some_iff.mp H
       obtain ⟨t416, A210, H⟩ := H
       have A21 := Aside0.mk A210
       clear A210
       by_cases c22 : t416 = true
       ·subst c22
        have H1 : (if t409 = true then (if t408 = (wrap64 (2 + (Go.bits .and .i64 a1 63))) then ((demand_Bound.f x7_13 (wrap64 (2 + (Go.bits .and .i64 a1 63)))).bind fun t417 => (if t417 = (wrap64 (2 + (Go.bits .and .i64 a1 63))) then ((demand_Fits.f kj13 y413).bind fun t418 => (some (!t418))) else (none))) else (none)) else (none)) = some r := by rw [if_pos rfl] at H; exact H
        clear H
        have H := H1
        clear H1
        by_cases c23 : t409 = true
        ·subst c23
         have H1 : (if t408 = (wrap64 (2 + (Go.bits .and .i64 a1 63))) then ((demand_Bound.f x7_13 (wrap64 (2 + (Go.bits .and .i64 a1 63)))).bind fun t417 => (if t417 = (wrap64 (2 + (Go.bits .and .i64 a1 63))) then ((demand_Fits.f kj13 y413).bind fun t418 => (some (!t418))) else (none))) else (none)) = some r := by rw [if_pos rfl] at H; exact H
         clear H
         have H := H1
         clear H1
         by_cases c24 : t408 = (wrap64 (2 + (Go.bits .and .i64 a1 63)))
         ·rw [if_pos c24] at H
          have c24b0 : (t408 == (wrap64 (2 + (Go.bits .and .i64 a1 63)))) = true := beq_iff_eq.mpr c24
          have c24b1 : (t408 != (wrap64 (2 + (Go.bits .and .i64 a1 63)))) = false := bne_eq_false_iff_eq.mpr c24
          clear c24
          replace H := Option.bind_eq_some_iff.mp H
          obtain ⟨t417, A250, H⟩ := H
          have A25 := Aside0.mk A250
          clear A250
          by_cases c26 : t417 = (wrap64 (2 + (Go.bits .and .i64 a1 63)))
          ·rw [if_pos c26] at H
           have c26b0 : (t417 == (wrap64 (2 + (Go.bits .and .i64 a1 63)))) = true := beq_iff_eq.mpr c26
           have c26b1 : (t417 != (wrap64 (2 + (Go.bits .and .i64 a1 63)))) = false := bne_eq_false_iff_eq.mpr c26
           clear c26
           replace H := Option.bind_eq_some_iff.mp H
           obtain ⟨t418, A270, H⟩ := H
           have A27 := Aside0.mk A270
           clear A270
           obtain rfl := Option.some.inj H
           obtain ⟨Ao28, co28, eo28⟩ := Kd.R_slice HO_7.out
           subst eo28
           go_wp2_with (first | ((with_reducible refine gate_callee (f := 25) rfl ?_); refine goesL_ (some 63) rfl rfl Tryz.func25 (by kernel_rfl) rfl #[.slice Ao28 x7_13.length co28] rfl (by (try simp only [List.map_toArray, List.map_cons, List.map_nil]); (rfl)) ?_; (with_reducible refine (busy_Time.calls kj13 _ _ x7_13 t408 true _ ?side1 ?side2 A18.out).mono ?_); (case side1 => repeat ((exact (Kd.R_reads' HO_7.out).2.2))); (case side2 => exact (Kd.R_reads' HO_7.out).2.1); rintro e w29 ⟨rfl, hb⟩; refine ⟨_, rfl, ?_⟩; have n0_ := Aside0.mk (Kd.R_below (by exact HO_7.out) hb); have n1_ := Aside0.mk (below_step (by repeat ((with_reducible (exact HB.out)))) hb); clear HO_7; clear HB; have HO_7 := n0_; have HB := n1_; clear n0_ n1_; (try clear hb); (try clear hb2); (try clear hk); (try clear hi)) | ((with_reducible refine gate_callee (f := 24) rfl ?_); refine goesL_ (some 67) rfl rfl Tryz.func24 (by kernel_rfl) rfl #[.slice Ao28 x7_13.length co28] rfl (by (try simp only [List.map_toArray, List.map_cons, List.map_nil]); (rfl)) ?_; (with_reducible refine (hortatorlaw9_Loads.calls _ _ x7_13 t410 _ ?side1 ?side2 A19.out).mono ?_); (case side1 => repeat ((exact (Kd.R_reads' HO_7.out).2.2))); (case side2 => exact (Kd.R_reads' HO_7.out).2.1); rintro e w30 ⟨v411, rfl, ho0, hb⟩; refine ⟨_, rfl, ?_⟩; have n0_ := Aside0.mk (Kd.R_elder' (by exact HO_7.out) (Kd.R_base ho0) hb); have n1_ := Aside0.mk (Kd.R_lower (Kd.R_new' ho0 (Kd.R_lt (by exact HO_7.out))) (below_size (by repeat ((with_reducible (exact HB.out)))))); have n2_ := Aside0.mk (below_step (by repeat ((with_reducible (exact HB.out)))) hb); clear HO_7; clear HB; have HO_7 := n0_; have HO412 := n1_; have HB := n2_; clear n0_ n1_ n2_; (try clear hb); (try clear hb2); (try clear hk); (try clear hi); (try clear ho0)) | ((with_reducible refine gate_builtin (b := .append) (xs := #[.tmp 67, .tmp 71]) rfl ?_); at_builtin; refine Kd.R_append k31 (w0 := w) w.heap.size rfl (.tmp 67) (.tmp 71) 22 31 (.agg #[(.int .i64 0), (.int .i64 0), (.int .i64 0)]) 24 rfl Tryz.underlying22 info31 rfl (by decide) (by omega) v411 t410 (⟨1, (wrap64 (2 + (Go.bits .and .i64 a1 63))), (wrap64 (2 + (Go.bits .and .i64 a1 63)))⟩ : S31) [.int .i64 1, .int .i64 (wrap64 (2 + (Go.bits .and .i64 a1 63))), .int .i64 (wrap64 (2 + (Go.bits .and .i64 a1 63)))] (fun k_ => some k_ ≠ (.slice Ao28 x7_13.length co28 : Value).ownBlock) (fun _ => False) rfl rfl ?aP (fun _ hk => hk.elim) ?aF ?aO ?aB ?aS ?aL ?_; (case aP => exact k31_mkM _ _ _ (⟨1, (wrap64 (2 + (Go.bits .and .i64 a1 63))), (wrap64 (2 + (Go.bits .and .i64 a1 63)))⟩ : S31)); (case aB => exact (by repeat ((with_reducible (exact HB.out))))); (case aF => exact (fun k_ hk => Kd.fresh' (Kd.R_lt (by exact HO_7.out)) k_ hk)); (case aO => exact (by exact Kd.R_mono HO412.out (fun _ hk => hk.2))); (case aS => exact (below_size (by repeat ((with_reducible (exact HB.out)))))); (case aL => have := LMc20.out; omega); intro v414 w31 ho hb hg hat; rw [← Ny413.out] at ho; have n0_ := Aside0.mk (Kd.R_after (ok := (fun _ => True)) (by exact HO_7.out) hg hat); have n1_ := Aside0.mk (hb); have n2_ := Aside0.mk (ho); clear HO_7; clear HB; clear HO412; have HO_7 := n0_; have HB := n1_; have HO415 := n2_; clear n0_ n1_ n2_; clear ho hb hg hat) | ((with_reducible refine gate_callee (f := 34) rfl ?_); refine goesL_ (some 74) rfl rfl Tryz.func34 (by kernel_rfl) rfl #[.slice Ao28 x7_13.length co28] rfl (by (try simp only [List.map_toArray, List.map_cons, List.map_nil]); (rfl)) ?_; (with_reducible refine (demand_Fits.calls kj13 _ _ x7_13 true _ ?side1 ?side2 A21.out).mono ?_); (case side1 => repeat ((exact (Kd.R_reads' HO_7.out).2.2))); (case side2 => exact (Kd.R_reads' HO_7.out).2.1); rintro e w32 ⟨rfl, hb⟩; refine ⟨_, rfl, ?_⟩; have n0_ := Aside0.mk (Kd.R_below (by exact HO_7.out) hb); have n1_ := Aside0.mk (Kd.R_below (by exact HO415.out) hb); have n2_ := Aside0.mk (below_step (by repeat ((with_reducible (exact HB.out)))) hb); clear HO_7; clear HO415; clear HB; have HO_7 := n0_; have HO415 := n1_; have HB := n2_; clear n0_ n1_ n2_; (try clear hb); (try clear hb2); (try clear hk); (try clear hi)) | (go_at_call 32; (with_reducible refine (demand_Bound.calls _ _ x7_13 (wrap64 (2 + (Go.bits .and .i64 a1 63))) t417 _ ?side1 ?side2 A25.out).mono ?_); (case side1 => repeat ((exact (Kd.R_reads' HO_7.out).2.2))); (case side2 => exact (Kd.R_reads' HO_7.out).2.1); rintro e w33 ⟨rfl, hb⟩; have n0_ := Aside0.mk (Kd.R_below (by exact HO_7.out) hb); have n1_ := Aside0.mk (Kd.R_below (by exact HO415.out) hb); have n2_ := Aside0.mk (below_step (by repeat ((with_reducible (exact HB.out)))) hb); clear HO_7; clear HO415; clear HB; have HO_7 := n0_; have HO415 := n1_; have HB := n2_; clear n0_ n1_ n2_; (try clear hb); (try clear hb2); (try clear hk); (try clear hi); obtain ⟨Ao34, co34, eo34⟩ := Kd.R_slice HO415.out; subst eo34) | (go_at_call 34; (with_reducible refine (demand_Fits.calls kj13 _ _ y413 t418 _ ?side1 ?side2 A27.out).mono ?_); (case side1 => repeat ((exact (Kd.R_reads' HO415.out).2.2))); (case side2 => exact (Kd.R_reads' HO415.out).2.1); rintro e w35 ⟨rfl, hb⟩; have n0_ := Aside0.mk (Kd.R_below (by exact HO_7.out) hb); have n1_ := Aside0.mk (Kd.R_below (by exact HO415.out) hb); have n2_ := Aside0.mk (below_step (by repeat ((with_reducible (exact HB.out)))) hb); clear HO_7; clear HO415; clear HB; have HO_7 := n0_; have HO415 := n1_; have HB := n2_; clear n0_ n1_ n2_; (try clear hb); (try clear hb2); (try clear hk); (try clear hi)))
           go_ret
           exact ⟨by (rfl), by repeat ((with_reducible (exact HB.out)))⟩
          ·rw [if_neg c26] at H
           exact absurd H (by simp)
         ·rw [if_neg c24] at H
          exact absurd H (by simp)
        ·replace c23 := Bool.eq_false_iff.mpr c23
         subst c23
         have H1 : (none) = some r := by rw [if_neg (show ¬ (false = true) by decide)] at H; exact H
         clear H
         have H := H1
         clear H1
         exact absurd H (by simp)
       ·replace c22 := Bool.eq_false_iff.mpr c22
        subst c22
        have H1 : (none) = some r := by rw [if_neg (show ¬ (false = true) by decide)] at H; exact H
        clear H
        have H := H1
        clear H1
        exact absurd H (by simp)
      ·rw [if_neg c20] at H
       exact absurd H (by simp)
 ·replace c4 := Bool.eq_false_iff.mpr c4
  subst c4
  have H1 : (none) = some r := by rw [if_neg (show ¬ (false = true) by decide)] at H; exact H
  clear H
  have H := H1
  clear H1
  exact absurd H (by simp)

end Go.Proofs.YtddepomgaeadpaaGreatDoor.PAll
