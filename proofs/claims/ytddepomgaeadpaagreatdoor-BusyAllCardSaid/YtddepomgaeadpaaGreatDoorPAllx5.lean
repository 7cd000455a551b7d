-- Written by a program of this session (wip/pp.py) over the kit's print, with hand-proved contracts beside it.
import Derived.Test.YtddepomgaeadpaaGreatDoorPAllx0
import Derived.Test.YtddepomgaeadpaaGreatDoorPAllx4
namespace Go.Proofs.YtddepomgaeadpaaGreatDoor.PAll
open Go.Shelf Go.Lib Go.RowKit Go.Proofs.YtddepomgaeadpaaGreatDoorW.PrintWords Go.Proofs.YtddepomgaeadpaaGreatDoorW.PrintLast Go.Proofs.YtddepomgaeadpaaGreatDoorW.PrintMore
attribute [local go_sem] max2_int min2_int max_two min_two max_three min_three max_four min_four   -- for this text's walks alone
set_option linter.unusedVariables false
set_option linter.unusedSimpArgs false

/-! ### hortatorref7_Time: function 26 -/
mutual
def hortatorref7_Time.j0 : Nat → List (S31) → Bool → Option (Int × Bool)
 | 0, _, _ => none
 | k + 1, x0, x14 => if x14 = true then ((hortatorref7_Loads.f k x0).bind fun t164 => (some (0, t164))) else (hortatorref7_Time.l0 k x0 1)
def hortatorref7_Time.l0 : Nat → List (S31) → Int → Option (Int × Bool)
 | 0, _, _ => none
 | k + 1, x0, x4 => if x4 ≤ 20000 then (hortatorref7_Time.l1 k x0 x4 0 0) else (some (0, false))
def hortatorref7_Time.l1 : Nat → List (S31) → Int → Int → Int → Option (Int × Bool)
 | 0, _, _, _, _ => none
 | k + 1, x0, x4, x5, x6 => if x6 < (x0.length : Int) then (if 0 ≤ x6 then (if ((rd_T31 x0 x6).f2) = 0 then (none) else (hortatorref7_Time.l1 k x0 x4 (wrap64 (x5 + (wrap64 (((rd_T31 x0 x6).f0) * (wrap64 ((wrap64 (Int.tdiv (wrap64 (x4 - 1)) ((rd_T31 x0 x6).f2))) + 1)))))) (wrap64 (x6 + 1)))) else (none)) else (if x5 = x4 then (some (x4, true)) else (hortatorref7_Time.l0 k x0 x5))
end
def hortatorref7_Time.f (k : Nat) (l0 : List (S31)) : Option (Int × Bool) := (hortatorref7_Loads.f k l0).bind fun t163 => (if t163 = true then (hortatorref7_Time.j0 k l0 ((l0.length : Int) == 0)) else (hortatorref7_Time.j0 k l0 true))
set_option maxHeartbeats 8000000 in
set_option maxRecDepth 100000 in
theorem hortatorref7_Time.calls (k : Nat) (A0 : Option Addr) (c0 : Nat) (l0 : List (S31)) (r1 : Int) (r2 : Bool) (w : World) (hr0 : Kd.C k31 w A0 l0.length l0) (hc0 : l0.length ≤ c0) (h : hortatorref7_Time.f k l0 = some (r1, r2)) :
  Calls Tryz.prog 26 #[.slice A0 l0.length c0] w fun e w' => e = .returned (.tuple #[.int .i64 r1, .bool r2]) ∧ Below w.heap.size w w' := by
 have HR0 := Aside0.mk hr0
 have HC0 := Aside0.mk hc0
 clear hr0 hc0
 have HB := Aside0.mk (Below.refl w.heap.size w)
 have H : ((hortatorref7_Loads.f k l0).bind fun t163 => (if t163 = true then (hortatorref7_Time.j0 k l0 ((l0.length : Int) == 0)) else (hortatorref7_Time.j0 k l0 true))) = some (r1, r2) := h
 clear h
 have HC2 := Aside0.mk H
 clear H
 go_enter Tryz.func26, Tryz.ntmps26
 go_upto_region 1 with (fail)
 repeat (go_quiet (fail); go_upto_region 1 with (fail))
 go_cut [14] (fun v14 wc => ∃ (kq : Nat) (x14_1 : Bool), v14 = .bool x14_1 ∧ Aside0 (hortatorref7_Time.j0 kq l0 x14_1 = some (r1, r2)) ∧ Aside0 (kq ≤ k) ∧ Aside0 (Below w.heap.size w wc))
 case first =>
  have H := HC2.out
  clear HC2
  replace H := Option.bind_eq_some_iff.mp H
  obtain ⟨t163, A30, H⟩ := H
  have A3 := Aside0.mk A30
  clear A30
  by_cases c4 : t163 = true
  ·subst c4
   have H1 : (hortatorref7_Time.j0 k l0 ((l0.length : Int) == 0)) = some (r1, r2) := by rw [if_pos rfl] at H; exact H
   clear H
   have H := H1
   clear H1
   have H' := Aside0.mk H
   clear H
   go_wp2_with ((go_at_call 29; (with_reducible refine (hortatorref7_Loads.calls k _ _ l0 true _ ?side1 ?side2 A3.out).mono ?_); (case side1 => repeat ((exact (Kd.C_below HR0.out HB.out)))); (case side2 => exact HC0.out); rintro e w5 ⟨rfl, hb⟩; have n0_ := Aside0.mk (below_step (by repeat ((with_reducible (exact HB.out)))) hb); clear HB; have HB := n0_; clear n0_; (try clear hb); (try clear hb2); (try clear hk); (try clear hi)))
   repeat (go_quiet (fail); try go_wp2_with (fail))
   go_meet
   case rel => exact ⟨_, (((l0.length : Int) == 0)), (by (rfl)), H', ⟨by (omega)⟩, ⟨by repeat ((with_reducible (exact HB.out)))⟩⟩
  ·replace c4 := Bool.eq_false_iff.mpr c4
   subst c4
   have H1 : (hortatorref7_Time.j0 k l0 true) = some (r1, r2) := by rw [if_neg (show ¬ (false = true) by decide)] at H; exact H
   clear H
   have H := H1
   clear H1
   have H' := Aside0.mk H
   clear H
   go_wp2_with ((go_at_call 29; (with_reducible refine (hortatorref7_Loads.calls k _ _ l0 false _ ?side1 ?side2 A3.out).mono ?_); (case side1 => repeat ((exact (Kd.C_below HR0.out HB.out)))); (case side2 => exact HC0.out); rintro e w6 ⟨rfl, hb⟩; have n0_ := Aside0.mk (below_step (by repeat ((with_reducible (exact HB.out)))) hb); clear HB; have HB := n0_; clear n0_; (try clear hb); (try clear hb2); (try clear hk); (try clear hi)))
   repeat (go_quiet (fail); try go_wp2_with (fail))
   go_meet
   case rel => exact ⟨_, (true), (by (rfl)), H', ⟨by (omega)⟩, ⟨by repeat ((with_reducible (exact HB.out)))⟩⟩
 case rest =>
  clear HC2
  obtain ⟨kq, x14_1, rfl, HA, HJ1, HB⟩ := hcut
  cases kq with
  | zero => exact absurd HA.out (by simp [hortatorref7_Time.j0])
  | succ kj1 =>
   have H := HA.out
   clear HA
   simp only [hortatorref7_Time.j0] at H
   by_cases c7 : x14_1 = true
   ·subst c7
    have H1 : ((hortatorref7_Loads.f kj1 l0).bind fun t164 => (some (0, t164))) = some (r1, r2) := by rw [if_pos rfl] at H; exact H
    clear H
    have H := H1
    clear H1
    replace H := Option.bind_eq_some_iff.mp H
    obtain ⟨t164, A80, H⟩ := H
    have A8 := Aside0.mk A80
    clear A80
    simp only [Option.some.injEq, Prod.mk.injEq] at H
    obtain ⟨rfl, rfl⟩ := H
    go_wp2_with ((go_at_call 29; (with_reducible refine (hortatorref7_Loads.calls kj1 _ _ l0 t164 _ ?side1 ?side2 A8.out).mono ?_); (case side1 => repeat ((exact (Kd.C_below HR0.out HB.out)))); (case side2 => exact HC0.out); rintro e w9 ⟨rfl, hb⟩; have n0_ := Aside0.mk (below_step (by repeat ((with_reducible (exact HB.out)))) hb); clear HB; have HB := n0_; clear n0_; (try clear hb); (try clear hb2); (try clear hk); (try clear hi)))
    repeat (go_quiet (fail); try go_wp2_with (fail))
    go_ret2
    exact ⟨by (rfl), by repeat ((with_reducible (exact HB.out)))⟩
   ·replace c7 := Bool.eq_false_iff.mpr c7
    subst c7
    have H1 : (hortatorref7_Time.l0 kj1 l0 1) = some (r1, r2) := by rw [if_neg (show ¬ (false = true) by decide)] at H; exact H
    clear H
    have H := H1
    clear H1
    have H' := Aside0.mk H
    clear H
    go_wp2
    repeat (go_quiet (fail); try go_wp2)
    go_loopg [4] kj1 (fun kq v4 w' => ∃ (x4_2 : Int), v4 = .int .i64 x4_2 ∧ Aside0 (hortatorref7_Time.l0 kq l0 x4_2 = some (r1, r2)) ∧ Aside0 (kq ≤ kj1) ∧ Aside0 (Below w.heap.size w w'))
    case atStart => exact ⟨(1), (by (rfl)), H', ⟨Nat.le_refl _⟩, ⟨by repeat ((with_reducible (exact HB.out)))⟩⟩
    case round =>
     clear H'
     obtain ⟨x4_2, rfl, HA, HK2, HB⟩ := hrel
     cases gk with
     | zero => exact absurd HA.out (by simp [hortatorref7_Time.l0])
     | succ k2 =>
      have H := HA.out
      clear HA
      simp only [hortatorref7_Time.l0] at H
      by_cases c10 : x4_2 ≤ 20000
      ·rw [if_pos c10] at H
       have c10b0 : decide (x4_2 ≤ 20000) = true := decide_eq_true c10
       clear c10
       have H' := Aside0.mk H
       clear H
       go_wp2
       repeat (go_quiet (fail); try go_wp2)
       go_loopg [5, 6] k2 (fun kq v5 v6 w' => ∃ (x5_3 : Int) (x6_3 : Int), v5 = .int .i64 x5_3 ∧ v6 = .int .i64 x6_3 ∧ Aside0 (hortatorref7_Time.l1 kq l0 x4_2 x5_3 x6_3 = some (r1, r2)) ∧ Aside0 (kq ≤ k2) ∧ Aside0 (Below w.heap.size w w'))
       case atStart => exact ⟨(0), (0), (by (rfl)), (by (rfl)), H', ⟨Nat.le_refl _⟩, ⟨by repeat ((with_reducible (exact HB.out)))⟩⟩
       case round =>
        clear H'
        try clear c10b0
        obtain ⟨x5_3, x6_3, rfl, rfl, HA, HK3, HB⟩ := hrel
        cases gk with
        | zero => exact absurd HA.out (by simp [hortatorref7_Time.l1])
        | succ k3 =>
         have H := HA.out
         clear HA
         simp only [hortatorref7_Time.l1] at H
         by_cases c11 : x6_3 < (l0.length : Int)
         ·rw [if_pos c11] at H
          have c11b0 : decide (x6_3 < (l0.length : Int)) = true := decide_eq_true c11
          clear c11
          by_cases c12 : 0 ≤ x6_3
          ·rw [if_pos c12] at H
           have c12b0 : decide (0 ≤ x6_3) = true := decide_eq_true c12
           clear c12
           by_cases c13 : ((rd_T31 l0 x6_3).f2) = 0
           ·rw [if_pos c13] at H
            exact absurd H (by simp)
           ·rw [if_neg c13] at H
            have c13b0 : (((rd_T31 l0 x6_3).f2) == 0) = false := beq_eq_false_iff_ne.mpr c13
            have c13b1 : (((rd_T31 l0 x6_3).f2) != 0) = true := bne_iff_ne.mpr c13
            have H' := Aside0.mk H
            clear H
            have p165 : 0 ≤ (x6_3 : Int) := of_decide_eq_true (by (with_reducible assumption))
            have q165 : x6_3 < (l0.length : Int) := of_decide_eq_true (by (with_reducible assumption))
            obtain ⟨ad165, e165, hx165_0, hx165_1, hx165_2⟩ := at_T31 HR0.out x6_3 p165 q165
            cases e165
            replace hx165_0 := (HB.out.cell (World.block_lt_of_cell? w _ hx165_0)).trans hx165_0
            replace hx165_1 := (HB.out.cell (World.block_lt_of_cell? w _ hx165_1)).trans hx165_1
            replace hx165_2 := (HB.out.cell (World.block_lt_of_cell? w _ hx165_2)).trans hx165_2
            replace p165 := eq_true p165
            replace q165 := eq_true q165
            have p166 : 0 ≤ (x6_3 : Int) := of_decide_eq_true (by (with_reducible assumption))
            have q166 : x6_3 < (l0.length : Int) := of_decide_eq_true (by (with_reducible assumption))
            obtain ⟨ad166, e166, hx166_0, hx166_1, hx166_2⟩ := at_T31 HR0.out x6_3 p166 q166
            obtain rfl : ad165 = ad166 := (by injection e166)
            replace hx166_0 := (HB.out.cell (World.block_lt_of_cell? w _ hx166_0)).trans hx166_0
            replace hx166_1 := (HB.out.cell (World.block_lt_of_cell? w _ hx166_1)).trans hx166_1
            replace hx166_2 := (HB.out.cell (World.block_lt_of_cell? w _ hx166_2)).trans hx166_2
            replace p166 := eq_true p166
            replace q166 := eq_true q166
            go_wp2
            repeat (go_quiet (fail); try go_wp2)
            go_roundg k3
            case measure => have := HJ1.out; have := HK2.out; have := HK3.out; omega
            case rel => exact ⟨(wrap64 (x5_3 + (wrap64 (((rd_T31 l0 x6_3).f0) * (wrap64 ((wrap64 (Int.tdiv (wrap64 (x4_2 - 1)) ((rd_T31 l0 x6_3).f2))) + 1)))))), (wrap64 (x6_3 + 1)), (by (rfl)), (by (rfl)), H', ⟨by have := HJ1.out; have := HK2.out; have := HK3.out; omega⟩, ⟨by repeat ((with_reducible first | exact HB.out | apply pw_below_drewN))⟩⟩
          ·rw [if_neg c12] at H
           exact absurd H (by simp)
         ·rw [if_neg c11] at H
          have c11b0 : decide (x6_3 < (l0.length : Int)) = false := decide_eq_false c11
          clear c11
          by_cases c14 : x5_3 = x4_2
          ·rw [if_pos c14] at H
           have c14b0 : (x5_3 == x4_2) = true := beq_iff_eq.mpr c14
           have c14b1 : (x5_3 != x4_2) = false := bne_eq_false_iff_eq.mpr c14
           clear c14
           simp only [Option.some.injEq, Prod.mk.injEq] at H
           obtain ⟨rfl, rfl⟩ := H
           go_wp2
           repeat (go_quiet (fail); try go_wp2)
           go_ret2
           exact ⟨by (rfl), by repeat ((with_reducible (exact HB.out)))⟩
          ·rw [if_neg c14] at H
           have c14b0 : (x5_3 == x4_2) = false := beq_eq_false_iff_ne.mpr c14
           have c14b1 : (x5_3 != x4_2) = true := bne_iff_ne.mpr c14
           have H' := Aside0.mk H
           clear H
           go_wp2
           repeat (go_quiet (fail); try go_wp2)
           go_roundg k3
           case measure => have := HJ1.out; have := HK2.out; have := HK3.out; omega
           case rel => exact ⟨(x5_3), (by (rfl)), H', ⟨by have := HJ1.out; have := HK2.out; have := HK3.out; omega⟩, ⟨by repeat ((with_reducible (exact HB.out)))⟩⟩
      ·rw [if_neg c10] at H
       have c10b0 : decide (x4_2 ≤ 20000) = false := decide_eq_false c10
       clear c10
       simp only [Option.some.injEq, Prod.mk.injEq] at H
       obtain ⟨rfl, rfl⟩ := H
       go_wp2
       repeat (go_quiet (fail); try go_wp2)
       go_ret2
       exact ⟨by (rfl), by repeat ((with_reducible (exact HB.out)))⟩

/-! ### hortatorref7_Asked: function 28 -/
mutual
def hortatorref7_Asked.l0 : Nat → List (S31) → Int → Int → Int → Option (Int)
 | 0, _, _, _, _ => none
 | k + 1, x0, x1, x5, x6 => if x6 < (x0.length : Int) then ((hortatorref7_Loads.f k x0).bind fun t167 => (if t167 = true then ((hortatorref7_in.f x1 0 20000).bind fun t168 => (hortatorref7_Asked.j1 k x0 x1 x5 x6 t168)) else (hortatorref7_Asked.j1 k x0 x1 x5 x6 false))) else (hortatorref7_Asked.j1 k x0 x1 x5 x6 false)
def hortatorref7_Asked.j1 : Nat → List (S31) → Int → Int → Int → Bool → Option (Int)
 | 0, _, _, _, _, _ => none
 | k + 1, x0, x1, x5, x6, x19 => if x19 = true then (hortatorref7_Asked.l1 k x0 x1 x5 x6 0) else (some x5)
def hortatorref7_Asked.l1 : Nat → List (S31) → Int → Int → Int → Int → Option (Int)
 | 0, _, _, _, _, _ => none
 | k + 1, x0, x1, x5, x6, x7 => if x7 < x1 then (if 0 ≤ x6 then (if x6 < (x0.length : Int) then (hortatorref7_Asked.l1 k x0 x1 (wrap64 (x5 + ((rd_T31 x0 x6).f0))) x6 (wrap64 (x7 + ((rd_T31 x0 x6).f2)))) else (none)) else (none)) else (hortatorref7_Asked.l0 k x0 x1 x5 (wrap64 (x6 + 1)))
end
def hortatorref7_Asked.f (k : Nat) (l0 : List (S31)) (a1 : Int) : Option (Int) := hortatorref7_Asked.l0 k l0 a1 0 0
set_option maxHeartbeats 8000000 in
set_option maxRecDepth 100000 in
theorem hortatorref7_Asked.calls (k : Nat) (A0 : Option Addr) (c0 : Nat) (l0 : List (S31)) (a1 : Int) (r : Int) (w : World) (hr0 : Kd.C k31 w A0 l0.length l0) (hc0 : l0.length ≤ c0) (h : hortatorref7_Asked.f k l0 a1 = some r) :
  Calls Tryz.prog 28 #[.slice A0 l0.length c0, .int .i64 a1] w fun e w' => e = .returned (.int .i64 r) ∧ Below w.heap.size w w' := by
 have HR0 := Aside0.mk hr0
 have HC0 := Aside0.mk hc0
 clear hr0 hc0
 have HB := Aside0.mk (Below.refl w.heap.size w)
 have H : (hortatorref7_Asked.l0 k l0 a1 0 0) = some r := h
 clear h
 have H' := Aside0.mk H
 clear H
 go_enter Tryz.func28, Tryz.ntmps28
 go_wp2
 go_loopg [5, 6] k (fun kq v5 v6 w' => ∃ (x5_1 : Int) (x6_1 : Int), v5 = .int .i64 x5_1 ∧ v6 = .int .i64 x6_1 ∧ Aside0 (hortatorref7_Asked.l0 kq l0 a1 x5_1 x6_1 = some r) ∧ Aside0 (kq ≤ k) ∧ Aside0 (Below w.heap.size w w'))
 case atStart => exact ⟨(0), (0), (by (rfl)), (by (rfl)), H', ⟨Nat.le_refl _⟩, ⟨by repeat ((with_reducible (exact HB.out)))⟩⟩
 case round =>
  clear H'
  obtain ⟨x5_1, x6_1, rfl, rfl, HA, HK1, HB⟩ := hrel
  cases gk with
  | zero => exact absurd HA.out (by simp [hortatorref7_Asked.l0])
  | succ k1 =>
   have H := HA.out
   clear HA
   simp only [hortatorref7_Asked.l0] at H
   have HC3 := Aside0.mk H
   clear H
   go_upto_region 3 with (fail)
   go_cut [19] (fun v19 wc => ∃ (kq : Nat) (x19_2 : Bool), v19 = .bool x19_2 ∧ Aside0 (hortatorref7_Asked.j1 kq l0 a1 x5_1 x6_1 x19_2 = some r) ∧ Aside0 (kq ≤ k1) ∧ Aside0 (Below w.heap.size w wc))
   case first =>
    have H := HC3.out
    clear HC3
    by_cases c4 : x6_1 < (l0.length : Int)
    ·rw [if_pos c4] at H
     have c4b0 : decide (x6_1 < (l0.length : Int)) = true := decide_eq_true c4
     clear c4
     ((skip))
     replace H := Option.bind_eq_some_iff.mp H
     obtain ⟨t167, A50, H⟩ := H
     have A5 := Aside0.mk A50
     clear A50
     by_cases c6 : t167 = true
     ·subst c6
      have H1 : ((hortatorref7_in.f a1 0 20000).bind fun t168 => (hortatorref7_Asked.j1 k1 l0 a1 x5_1 x6_1 t168)) = some r := by rw [if_pos rfl] at H; exact H
      clear H
      have H := H1
      clear H1
      replace H := Option.bind_eq_some_iff.mp H
      obtain ⟨t168, A70, H⟩ := H
      have A7 := Aside0.mk A70
      clear A70
      have H' := Aside0.mk H
      clear H
      go_wp2_with (first | (go_at_call 29; (with_reducible refine (hortatorref7_Loads.calls k1 _ _ l0 true _ ?side1 ?side2 A5.out).mono ?_); (case side1 => repeat ((exact (Kd.C_below HR0.out HB.out)))); (case side2 => exact HC0.out); rintro e w8 ⟨rfl, hb⟩; have n0_ := Aside0.mk (below_step (by repeat ((with_reducible (exact HB.out)))) hb); clear HB; have HB := n0_; clear n0_; (try clear hb); (try clear hb2); (try clear hk); (try clear hi)) | (go_at_call 44; (with_reducible refine (hortatorref7_in.calls a1 0 20000 t168 _ A7.out).mono ?_); rintro e w' ⟨rfl, ⟨nd, rfl⟩⟩))
      go_meet
      case rel => exact ⟨_, (t168), (by (rfl)), H', ⟨by have := HK1.out; (omega)⟩, ⟨by repeat ((with_reducible first | exact HB.out | apply pw_below_drewN))⟩⟩
     ·replace c6 := Bool.eq_false_iff.mpr c6
      subst c6
      have H1 : (hortatorref7_Asked.j1 k1 l0 a1 x5_1 x6_1 false) = some r := by rw [if_neg (show ¬ (false = true) by decide)] at H; exact H
      clear H
      have H := H1
      clear H1
      have H' := Aside0.mk H
      clear H
      go_wp2_with ((go_at_call 29; (with_reducible refine (hortatorref7_Loads.calls k1 _ _ l0 false _ ?side1 ?side2 A5.out).mono ?_); (case side1 => repeat ((exact (Kd.C_below HR0.out HB.out)))); (case side2 => exact HC0.out); rintro e w9 ⟨rfl, hb⟩; have n0_ := Aside0.mk (below_step (by repeat ((with_reducible (exact HB.out)))) hb); clear HB; have HB := n0_; clear n0_; (try clear hb); (try clear hb2); (try clear hk); (try clear hi)))
      go_meet
      case rel => exact ⟨_, (false), (by (rfl)), H', ⟨by have := HK1.out; (omega)⟩, ⟨by repeat ((with_reducible (exact HB.out)))⟩⟩
    ·rw [if_neg c4] at H
     have c4b0 : decide (x6_1 < (l0.length : Int)) = false := decide_eq_false c4
     clear c4
     ((skip))
     have H' := Aside0.mk H
     clear H
     go_wp2
     go_meet
     case rel => exact ⟨_, (false), (by (rfl)), H', ⟨by have := HK1.out; (omega)⟩, ⟨by repeat ((with_reducible (exact HB.out)))⟩⟩
   case rest =>
    clear HC3
    obtain ⟨kq, x19_2, rfl, HA, HJ2, HB⟩ := hcut
    cases kq with
    | zero => exact absurd HA.out (by simp [hortatorref7_Asked.j1])
    | succ kj2 =>
     have H := HA.out
     clear HA
     simp only [hortatorref7_Asked.j1] at H
     by_cases c10 : x19_2 = true
     ·subst c10
      have H1 : (hortatorref7_Asked.l1 kj2 l0 a1 x5_1 x6_1 0) = some r := by rw [if_pos rfl] at H; exact H
      clear H
      have H := H1
      clear H1
      have H' := Aside0.mk H
      clear H
      go_wp2
      go_loopg [5, 7] kj2 (fun kq v5 v7 w' => ∃ (x5_3 : Int) (x7_3 : Int), v5 = .int .i64 x5_3 ∧ v7 = .int .i64 x7_3 ∧ Aside0 (hortatorref7_Asked.l1 kq l0 a1 x5_3 x6_1 x7_3 = some r) ∧ Aside0 (kq ≤ kj2) ∧ Aside0 (Below w.heap.size w w'))
      case atStart => exact ⟨(x5_1), (0), (by (rfl)), (by (rfl)), H', ⟨Nat.le_refl _⟩, ⟨by repeat ((with_reducible (exact HB.out)))⟩⟩
      case round =>
       clear H'
       obtain ⟨x5_3, x7_3, rfl, rfl, HA, HK3, HB⟩ := hrel
       cases gk with
       | zero => exact absurd HA.out (by simp [hortatorref7_Asked.l1])
       | succ k3 =>
        have H := HA.out
        clear HA
        simp only [hortatorref7_Asked.l1] at H
        by_cases c11 : x7_3 < a1
        ·rw [if_pos c11] at H
         have c11b0 : decide (x7_3 < a1) = true := decide_eq_true c11
         clear c11
         by_cases c12 : 0 ≤ x6_1
         ·rw [if_pos c12] at H
          have c12b0 : decide (0 ≤ x6_1) = true := decide_eq_true c12
          clear c12
          by_cases c13 : x6_1 < (l0.length : Int)
          ·rw [if_pos c13] at H
           have c13b0 : decide (x6_1 < (l0.length : Int)) = true := decide_eq_true c13
           clear c13
           have H' := Aside0.mk H
           clear H
           have p169 : 0 ≤ (x6_1 : Int) := of_decide_eq_true (by (with_reducible assumption))
           have q169 : x6_1 < (l0.length : Int) := of_decide_eq_true (by (with_reducible assumption))
           obtain ⟨ad169, e169, hx169_0, hx169_1, hx169_2⟩ := at_T31 HR0.out x6_1 p169 q169
           cases e169
           replace hx169_0 := (HB.out.cell (World.block_lt_of_cell? w _ hx169_0)).trans hx169_0
           replace hx169_1 := (HB.out.cell (World.block_lt_of_cell? w _ hx169_1)).trans hx169_1
           replace hx169_2 := (HB.out.cell (World.block_lt_of_cell? w _ hx169_2)).trans hx169_2
           replace p169 := eq_true p169
           replace q169 := eq_true q169
           have p170 : 0 ≤ (x6_1 : Int) := of_decide_eq_true (by (with_reducible assumption))
           have q170 : x6_1 < (l0.length : Int) := of_decide_eq_true (by (with_reducible assumption))
           obtain ⟨ad170, e170, hx170_0, hx170_1, hx170_2⟩ := at_T31 HR0.out x6_1 p170 q170
           obtain rfl : ad169 = ad170 := (by injection e170)
           replace hx170_0 := (HB.out.cell (World.block_lt_of_cell? w _ hx170_0)).trans hx170_0
           replace hx170_1 := (HB.out.cell (World.block_lt_of_cell? w _ hx170_1)).trans hx170_1
           replace hx170_2 := (HB.out.cell (World.block_lt_of_cell? w _ hx170_2)).trans hx170_2
           replace p170 := eq_true p170
           replace q170 := eq_true q170
           go_wp2
           go_roundg k3
           case measure => have := HK1.out; have := HJ2.out; have := HK3.out; omega
           case rel => exact ⟨(wrap64 (x5_3 + ((rd_T31 l0 x6_1).f0))), (wrap64 (x7_3 + ((rd_T31 l0 x6_1).f2))), (by (rfl)), (by (rfl)), H', ⟨by have := HK1.out; have := HJ2.out; have := HK3.out; omega⟩, ⟨by repeat ((with_reducible (exact HB.out)))⟩⟩
          ·rw [if_neg c13] at H
           exact absurd H (by simp)
         ·rw [if_neg c12] at H
          exact absurd H (by simp)
        ·rw [if_neg c11] at H
         have c11b0 : decide (x7_3 < a1) = false := decide_eq_false c11
         clear c11
         have H' := Aside0.mk H
         clear H
         go_wp2
         go_roundg k3
         case measure => have := HK1.out; have := HJ2.out; have := HK3.out; omega
         case rel => exact ⟨(x5_3), (wrap64 (x6_1 + 1)), (by (rfl)), (by (rfl)), H', ⟨by have := HK1.out; have := HJ2.out; have := HK3.out; omega⟩, ⟨by repeat ((with_reducible (exact HB.out)))⟩⟩
     ·replace c10 := Bool.eq_false_iff.mpr c10
      subst c10
      have H1 : (some x5_1) = some r := by rw [if_neg (show ¬ (false = true) by decide)] at H; exact H
      clear H
      have H := H1
      clear H1
      obtain rfl := Option.some.inj H
      go_wp2
      go_ret
      exact ⟨by (rfl), by repeat ((with_reducible (exact HB.out)))⟩

end Go.Proofs.YtddepomgaeadpaaGreatDoor.PAll
