-- Written by a program of this session (wip/pp.py) over the kit's print, with hand-proved contracts beside it.
import Derived.Test.YtddepomgaeadpaaGreatDoorPAllx0
import Derived.Test.YtddepomgaeadpaaGreatDoorPAllx4
import Derived.Test.YtddepomgaeadpaaGreatDoorPAllx5
namespace Go.Proofs.YtddepomgaeadpaaGreatDoor.PAll
open Go.Shelf Go.Lib Go.RowKit Go.Proofs.YtddepomgaeadpaaGreatDoorW.PrintWords Go.Proofs.YtddepomgaeadpaaGreatDoorW.PrintLast Go.Proofs.YtddepomgaeadpaaGreatDoorW.PrintMore
attribute [local go_sem] max2_int min2_int max_two min_two max_three min_three max_four min_four   -- for this text's walks alone
set_option linter.unusedVariables false
set_option linter.unusedSimpArgs false

/-! ### hortatorref7_Over: function 31 -/
mutual
def hortatorref7_Over.l0 : Nat → List (S31) → Int → Bool → Int → Int → Option (Int × Bool)
 | 0, _, _, _, _, _ => none
 | k + 1, x0, x4, x5, x6, x7 => if x7 ≤ x4 then (hortatorref7_Over.l1 k x0 x4 x5 x6 x7 0) else (some (0, x5))
def hortatorref7_Over.l1 : Nat → List (S31) → Int → Bool → Int → Int → Int → Option (Int × Bool)
 | 0, _, _, _, _, _, _ => none
 | k + 1, x0, x4, x5, x6, x7, x8 => if x8 < (x0.length : Int) then (if 0 ≤ x8 then (if x7 ≥ ((rd_T31 x0 x8).f1) then (if ((rd_T31 x0 x8).f2) = 0 then (none) else (if (Int.tmod (wrap64 (x7 - ((rd_T31 x0 x8).f1))) ((rd_T31 x0 x8).f2)) = 0 then (hortatorref7_Over.l1 k x0 x4 x5 (wrap64 (x6 + ((rd_T31 x0 x8).f0))) x7 (wrap64 (x8 + 1))) else (hortatorref7_Over.l1 k x0 x4 x5 x6 x7 (wrap64 (x8 + 1))))) else (hortatorref7_Over.l1 k x0 x4 x5 x6 x7 (wrap64 (x8 + 1)))) else (none)) else (if x6 > x7 then (some (x7, x5)) else (hortatorref7_Over.l0 k x0 x4 x5 x6 (wrap64 (x7 + 1))))
end
def hortatorref7_Over.f (k : Nat) (l0 : List (S31)) : Option (Int × Bool) := (hortatorref7_Time.f k l0).bind fun bt191 => (hortatorref7_Over.l0 k l0 bt191.1 bt191.2 0 1)
set_option maxHeartbeats 8000000 in
set_option maxRecDepth 100000 in
theorem hortatorref7_Over.calls (k : Nat) (A0 : Option Addr) (c0 : Nat) (l0 : List (S31)) (r1 : Int) (r2 : Bool) (w : World) (hr0 : Kd.C k31 w A0 l0.length l0) (hc0 : l0.length ≤ c0) (h : hortatorref7_Over.f k l0 = some (r1, r2)) :
  Calls Tryz.prog 31 #[.slice A0 l0.length c0] w fun e w' => e = .returned (.tuple #[.int .i64 r1, .bool r2]) ∧ Below w.heap.size w w' := by
 have HR0 := Aside0.mk hr0
 have HC0 := Aside0.mk hc0
 clear hr0 hc0
 have HB := Aside0.mk (Below.refl w.heap.size w)
 have H : ((hortatorref7_Time.f k l0).bind fun bt191 => (hortatorref7_Over.l0 k l0 bt191.1 bt191.2 0 1)) = some (r1, r2) := h
 clear h
 replace H := Option.bind_eq_some_iff.mp H
 obtain ⟨⟨t191, t192⟩, A20, H⟩ := H
 have A2 := Aside0.mk A20
 clear A20
 have H' := Aside0.mk H
 clear H
 go_enter Tryz.func31, Tryz.ntmps31
 go_wp2_with ((go_at_call 26; (with_reducible refine (hortatorref7_Time.calls k _ _ l0 t191 t192 _ ?side1 ?side2 A2.out).mono ?_); (case side1 => repeat ((exact HR0.out))); (case side2 => exact HC0.out); rintro e w3 ⟨rfl, hb⟩; have n0_ := Aside0.mk (below_step (by repeat ((with_reducible (exact HB.out)))) hb); clear HB; have HB := n0_; clear n0_; (try clear hb); (try clear hb2); (try clear hk); (try clear hi)))
 repeat (go_quiet (fail); try go_wp2_with (fail))
 go_loopg [6, 7] k (fun kq v6 v7 w' => ∃ (x6_1 : Int) (x7_1 : Int), v6 = .int .i64 x6_1 ∧ v7 = .int .i64 x7_1 ∧ Aside0 (hortatorref7_Over.l0 kq l0 t191 t192 x6_1 x7_1 = some (r1, r2)) ∧ Aside0 (kq ≤ k) ∧ Aside0 (Below w.heap.size w w'))
 case atStart => exact ⟨(0), (1), (by (rfl)), (by (rfl)), H', ⟨Nat.le_refl _⟩, ⟨by repeat ((with_reducible (exact HB.out)))⟩⟩
 case round =>
  clear H'
  obtain ⟨x6_1, x7_1, rfl, rfl, HA, HK1, HB⟩ := hrel
  cases gk with
  | zero => exact absurd HA.out (by simp [hortatorref7_Over.l0])
  | succ k1 =>
   have H := HA.out
   clear HA
   simp only [hortatorref7_Over.l0] at H
   by_cases c4 : x7_1 ≤ t191
   ·rw [if_pos c4] at H
    have c4b0 : decide (x7_1 ≤ t191) = true := decide_eq_true c4
    clear c4
    have H' := Aside0.mk H
    clear H
    go_wp2
    repeat (go_quiet (fail); try go_wp2)
    go_loopg [6, 8] k1 (fun kq v6 v8 w' => ∃ (x6_2 : Int) (x8_2 : Int), v6 = .int .i64 x6_2 ∧ v8 = .int .i64 x8_2 ∧ Aside0 (hortatorref7_Over.l1 kq l0 t191 t192 x6_2 x7_1 x8_2 = some (r1, r2)) ∧ Aside0 (kq ≤ k1) ∧ Aside0 (Below w.heap.size w w'))
    case atStart => exact ⟨(x6_1), (0), (by (rfl)), (by (rfl)), H', ⟨Nat.le_refl _⟩, ⟨by repeat ((with_reducible (exact HB.out)))⟩⟩
    case round =>
     clear H'
     try clear c4b0
     obtain ⟨x6_2, x8_2, rfl, rfl, HA, HK2, HB⟩ := hrel
     cases gk with
     | zero => exact absurd HA.out (by simp [hortatorref7_Over.l1])
     | succ k2 =>
      have H := HA.out
      clear HA
      simp only [hortatorref7_Over.l1] at H
      by_cases c5 : x8_2 < (l0.length : Int)
      ·rw [if_pos c5] at H
       have c5b0 : decide (x8_2 < (l0.length : Int)) = true := decide_eq_true c5
       clear c5
       by_cases c6 : 0 ≤ x8_2
       ·rw [if_pos c6] at H
        have c6b0 : decide (0 ≤ x8_2) = true := decide_eq_true c6
        clear c6
        by_cases c7 : x7_1 ≥ ((rd_T31 l0 x8_2).f1)
        ·rw [if_pos c7] at H
         have c7b0 : decide (((rd_T31 l0 x8_2).f1) ≤ x7_1) = true := decide_eq_true c7
         clear c7
         by_cases c8 : ((rd_T31 l0 x8_2).f2) = 0
         ·rw [if_pos c8] at H
          exact absurd H (by simp)
         ·rw [if_neg c8] at H
          have c8b0 : (((rd_T31 l0 x8_2).f2) == 0) = false := beq_eq_false_iff_ne.mpr c8
          have c8b1 : (((rd_T31 l0 x8_2).f2) != 0) = true := bne_iff_ne.mpr c8
          by_cases c9 : (Int.tmod (wrap64 (x7_1 - ((rd_T31 l0 x8_2).f1))) ((rd_T31 l0 x8_2).f2)) = 0
          ·rw [if_pos c9] at H
           have c9b0 : ((Int.tmod (wrap64 (x7_1 - ((rd_T31 l0 x8_2).f1))) ((rd_T31 l0 x8_2).f2)) == 0) = true := beq_iff_eq.mpr c9
           have c9b1 : ((Int.tmod (wrap64 (x7_1 - ((rd_T31 l0 x8_2).f1))) ((rd_T31 l0 x8_2).f2)) != 0) = false := bne_eq_false_iff_eq.mpr c9
           clear c9
           have H' := Aside0.mk H
           clear H
           have p193 : 0 ≤ (x8_2 : Int) := of_decide_eq_true (by (with_reducible assumption))
           have q193 : x8_2 < (l0.length : Int) := of_decide_eq_true (by (with_reducible assumption))
           obtain ⟨ad193, e193, hx193_0, hx193_1, hx193_2⟩ := at_T31 HR0.out x8_2 p193 q193
           cases e193
           replace hx193_0 := (HB.out.cell (World.block_lt_of_cell? w _ hx193_0)).trans hx193_0
           replace hx193_1 := (HB.out.cell (World.block_lt_of_cell? w _ hx193_1)).trans hx193_1
           replace hx193_2 := (HB.out.cell (World.block_lt_of_cell? w _ hx193_2)).trans hx193_2
           replace p193 := eq_true p193
           replace q193 := eq_true q193
           have p194 : 0 ≤ (x8_2 : Int) := of_decide_eq_true (by (with_reducible assumption))
           have q194 : x8_2 < (l0.length : Int) := of_decide_eq_true (by (with_reducible assumption))
           obtain ⟨ad194, e194, hx194_0, hx194_1, hx194_2⟩ := at_T31 HR0.out x8_2 p194 q194
           obtain rfl : ad193 = ad194 := (by injection e194)
           replace hx194_0 := (HB.out.cell (World.block_lt_of_cell? w _ hx194_0)).trans hx194_0
           replace hx194_1 := (HB.out.cell (World.block_lt_of_cell? w _ hx194_1)).trans hx194_1
           replace hx194_2 := (HB.out.cell (World.block_lt_of_cell? w _ hx194_2)).trans hx194_2
           replace p194 := eq_true p194
           replace q194 := eq_true q194
           have p195 : 0 ≤ (x8_2 : Int) := of_decide_eq_true (by (with_reducible assumption))
           have q195 : x8_2 < (l0.length : Int) := of_decide_eq_true (by (with_reducible assumption))
           obtain ⟨ad195, e195, hx195_0, hx195_1, hx195_2⟩ := at_T31 HR0.out x8_2 p195 q195
           obtain rfl : ad193 = ad195 := (by injection e195)
           replace hx195_0 := (HB.out.cell (World.block_lt_of_cell? w _ hx195_0)).trans hx195_0
           replace hx195_1 := (HB.out.cell (World.block_lt_of_cell? w _ hx195_1)).trans hx195_1
           replace hx195_2 := (HB.out.cell (World.block_lt_of_cell? w _ hx195_2)).trans hx195_2
           replace p195 := eq_true p195
           replace q195 := eq_true q195
           have p196 : 0 ≤ (x8_2 : Int) := of_decide_eq_true (by (with_reducible assumption))
           have q196 : x8_2 < (l0.length : Int) := of_decide_eq_true (by (with_reducible assumption))
           obtain ⟨ad196, e196, hx196_0, hx196_1, hx196_2⟩ := at_T31 HR0.out x8_2 p196 q196
           obtain rfl : ad193 = ad196 := (by injection e196)
           replace hx196_0 := (HB.out.cell (World.block_lt_of_cell? w _ hx196_0)).trans hx196_0
           replace hx196_1 := (HB.out.cell (World.block_lt_of_cell? w _ hx196_1)).trans hx196_1
           replace hx196_2 := (HB.out.cell (World.block_lt_of_cell? w _ hx196_2)).trans hx196_2
           replace p196 := eq_true p196
           replace q196 := eq_true q196
           go_wp2
           repeat (go_quiet (fail); try go_wp2)
           go_roundg k2
           case measure => have := HK1.out; have := HK2.out; omega
           case rel => exact ⟨(wrap64 (x6_2 + ((rd_T31 l0 x8_2).f0))), (wrap64 (x8_2 + 1)), (by (rfl)), (by (rfl)), H', ⟨by have := HK1.out; have := HK2.out; omega⟩, ⟨by repeat ((with_reducible first | exact HB.out | apply pw_below_drewN))⟩⟩
          ·rw [if_neg c9] at H
           have c9b0 : ((Int.tmod (wrap64 (x7_1 - ((rd_T31 l0 x8_2).f1))) ((rd_T31 l0 x8_2).f2)) == 0) = false := beq_eq_false_iff_ne.mpr c9
           have c9b1 : ((Int.tmod (wrap64 (x7_1 - ((rd_T31 l0 x8_2).f1))) ((rd_T31 l0 x8_2).f2)) != 0) = true := bne_iff_ne.mpr c9
           have H' := Aside0.mk H
           clear H
           have p193 : 0 ≤ (x8_2 : Int) := of_decide_eq_true (by (with_reducible assumption))
           have q193 : x8_2 < (l0.length : Int) := of_decide_eq_true (by (with_reducible assumption))
           obtain ⟨ad193, e193, hx193_0, hx193_1, hx193_2⟩ := at_T31 HR0.out x8_2 p193 q193
           cases e193
           replace hx193_0 := (HB.out.cell (World.block_lt_of_cell? w _ hx193_0)).trans hx193_0
           replace hx193_1 := (HB.out.cell (World.block_lt_of_cell? w _ hx193_1)).trans hx193_1
           replace hx193_2 := (HB.out.cell (World.block_lt_of_cell? w _ hx193_2)).trans hx193_2
           replace p193 := eq_true p193
           replace q193 := eq_true q193
           have p194 : 0 ≤ (x8_2 : Int) := of_decide_eq_true (by (with_reducible assumption))
           have q194 : x8_2 < (l0.length : Int) := of_decide_eq_true (by (with_reducible assumption))
           obtain ⟨ad194, e194, hx194_0, hx194_1, hx194_2⟩ := at_T31 HR0.out x8_2 p194 q194
           obtain rfl : ad193 = ad194 := (by injection e194)
           replace hx194_0 := (HB.out.cell (World.block_lt_of_cell? w _ hx194_0)).trans hx194_0
           replace hx194_1 := (HB.out.cell (World.block_lt_of_cell? w _ hx194_1)).trans hx194_1
           replace hx194_2 := (HB.out.cell (World.block_lt_of_cell? w _ hx194_2)).trans hx194_2
           replace p194 := eq_true p194
           replace q194 := eq_true q194
           have p195 : 0 ≤ (x8_2 : Int) := of_decide_eq_true (by (with_reducible assumption))
           have q195 : x8_2 < (l0.length : Int) := of_decide_eq_true (by (with_reducible assumption))
           obtain ⟨ad195, e195, hx195_0, hx195_1, hx195_2⟩ := at_T31 HR0.out x8_2 p195 q195
           obtain rfl : ad193 = ad195 := (by injection e195)
           replace hx195_0 := (HB.out.cell (World.block_lt_of_cell? w _ hx195_0)).trans hx195_0
           replace hx195_1 := (HB.out.cell (World.block_lt_of_cell? w _ hx195_1)).trans hx195_1
           replace hx195_2 := (HB.out.cell (World.block_lt_of_cell? w _ hx195_2)).trans hx195_2
           replace p195 := eq_true p195
           replace q195 := eq_true q195
           go_wp2
           repeat (go_quiet (fail); try go_wp2)
           go_roundg k2
           case measure => have := HK1.out; have := HK2.out; omega
           case rel => exact ⟨(x6_2), (wrap64 (x8_2 + 1)), (by (rfl)), (by (rfl)), H', ⟨by have := HK1.out; have := HK2.out; omega⟩, ⟨by repeat ((with_reducible first | exact HB.out | apply pw_below_drewN))⟩⟩
        ·rw [if_neg c7] at H
         have c7b0 : decide (((rd_T31 l0 x8_2).f1) ≤ x7_1) = false := decide_eq_false c7
         clear c7
         have H' := Aside0.mk H
         clear H
         have p193 : 0 ≤ (x8_2 : Int) := of_decide_eq_true (by (with_reducible assumption))
         have q193 : x8_2 < (l0.length : Int) := of_decide_eq_true (by (with_reducible assumption))
         obtain ⟨ad193, e193, hx193_0, hx193_1, hx193_2⟩ := at_T31 HR0.out x8_2 p193 q193
         cases e193
         replace hx193_0 := (HB.out.cell (World.block_lt_of_cell? w _ hx193_0)).trans hx193_0
         replace hx193_1 := (HB.out.cell (World.block_lt_of_cell? w _ hx193_1)).trans hx193_1
         replace hx193_2 := (HB.out.cell (World.block_lt_of_cell? w _ hx193_2)).trans hx193_2
         replace p193 := eq_true p193
         replace q193 := eq_true q193
         go_wp2
         repeat (go_quiet (fail); try go_wp2)
         go_roundg k2
         case measure => have := HK1.out; have := HK2.out; omega
         case rel => exact ⟨(x6_2), (wrap64 (x8_2 + 1)), (by (rfl)), (by (rfl)), H', ⟨by have := HK1.out; have := HK2.out; omega⟩, ⟨by repeat ((with_reducible first | exact HB.out | apply pw_below_drewN))⟩⟩
       ·rw [if_neg c6] at H
        exact absurd H (by simp)
      ·rw [if_neg c5] at H
       have c5b0 : decide (x8_2 < (l0.length : Int)) = false := decide_eq_false c5
       clear c5
       by_cases c10 : x6_2 > x7_1
       ·rw [if_pos c10] at H
        have c10b0 : decide (x7_1 < x6_2) = true := decide_eq_true c10
        clear c10
        simp only [Option.some.injEq, Prod.mk.injEq] at H
        obtain ⟨rfl, rfl⟩ := H
        go_wp2
        repeat (go_quiet (fail); try go_wp2)
        go_ret2
        exact ⟨by (rfl), by repeat ((with_reducible (exact HB.out)))⟩
       ·rw [if_neg c10] at H
        have c10b0 : decide (x7_1 < x6_2) = false := decide_eq_false c10
        clear c10
        have H' := Aside0.mk H
        clear H
        go_wp2
        repeat (go_quiet (fail); try go_wp2)
        go_roundg k2
        case measure => have := HK1.out; have := HK2.out; omega
        case rel => exact ⟨(x6_2), (wrap64 (x7_1 + 1)), (by (rfl)), (by (rfl)), H', ⟨by have := HK1.out; have := HK2.out; omega⟩, ⟨by repeat ((with_reducible (exact HB.out)))⟩⟩
   ·rw [if_neg c4] at H
    have c4b0 : decide (x7_1 ≤ t191) = false := decide_eq_false c4
    clear c4
    simp only [Option.some.injEq, Prod.mk.injEq] at H
    obtain ⟨rfl, rfl⟩ := H
    go_wp2
    repeat (go_quiet (fail); try go_wp2)
    go_ret2
    exact ⟨by (rfl), by repeat ((with_reducible (exact HB.out)))⟩

/-! ### hortatorref7_Bound: function 33 -/
mutual
def hortatorref7_Bound.l0 : Nat → List (S31) → Int → Int → Int → Option (Int)
 | 0, _, _, _, _ => none
 | k + 1, x0, x1, x5, x6 => if x6 < (x0.length : Int) then ((hortatorref7_Loads.f k x0).bind fun t197 => (if t197 = true then ((hortatorref7_in.f x1 0 20000).bind fun t198 => (hortatorref7_Bound.j1 k x0 x1 x5 x6 t198)) else (hortatorref7_Bound.j1 k x0 x1 x5 x6 false))) else (hortatorref7_Bound.j1 k x0 x1 x5 x6 false)
def hortatorref7_Bound.j1 : Nat → List (S31) → Int → Int → Int → Bool → Option (Int)
 | 0, _, _, _, _, _ => none
 | k + 1, x0, x1, x5, x6, x19 => if x19 = true then (hortatorref7_Bound.l1 k x0 x1 x5 x6 0) else (some x5)
def hortatorref7_Bound.l1 : Nat → List (S31) → Int → Int → Int → Int → Option (Int)
 | 0, _, _, _, _, _ => none
 | k + 1, x0, x1, x5, x6, x7 => if 0 ≤ x6 then (if x6 < (x0.length : Int) then (if (wrap64 (x7 + ((rd_T31 x0 x6).f1))) ≤ x1 then (hortatorref7_Bound.l1 k x0 x1 (wrap64 (x5 + ((rd_T31 x0 x6).f0))) x6 (wrap64 (x7 + ((rd_T31 x0 x6).f2)))) else (hortatorref7_Bound.l0 k x0 x1 x5 (wrap64 (x6 + 1)))) else (none)) else (none)
end
def hortatorref7_Bound.f (k : Nat) (l0 : List (S31)) (a1 : Int) : Option (Int) := hortatorref7_Bound.l0 k l0 a1 0 0
set_option maxHeartbeats 8000000 in
set_option maxRecDepth 100000 in
theorem hortatorref7_Bound.calls (k : Nat) (A0 : Option Addr) (c0 : Nat) (l0 : List (S31)) (a1 : Int) (r : Int) (w : World) (hr0 : Kd.C k31 w A0 l0.length l0) (hc0 : l0.length ≤ c0) (h : hortatorref7_Bound.f k l0 a1 = some r) :
  Calls Tryz.prog 33 #[.slice A0 l0.length c0, .int .i64 a1] w fun e w' => e = .returned (.int .i64 r) ∧ Below w.heap.size w w' := by
 have HR0 := Aside0.mk hr0
 have HC0 := Aside0.mk hc0
 clear hr0 hc0
 have HB := Aside0.mk (Below.refl w.heap.size w)
 have H : (hortatorref7_Bound.l0 k l0 a1 0 0) = some r := h
 clear h
 have H' := Aside0.mk H
 clear H
 go_enter Tryz.func33, Tryz.ntmps33
 go_wp2
 go_loopg [5, 6] k (fun kq v5 v6 w' => ∃ (x5_1 : Int) (x6_1 : Int), v5 = .int .i64 x5_1 ∧ v6 = .int .i64 x6_1 ∧ Aside0 (hortatorref7_Bound.l0 kq l0 a1 x5_1 x6_1 = some r) ∧ Aside0 (kq ≤ k) ∧ Aside0 (Below w.heap.size w w'))
 case atStart => exact ⟨(0), (0), (by (rfl)), (by (rfl)), H', ⟨Nat.le_refl _⟩, ⟨by repeat ((with_reducible (exact HB.out)))⟩⟩
 case round =>
  clear H'
  obtain ⟨x5_1, x6_1, rfl, rfl, HA, HK1, HB⟩ := hrel
  cases gk with
  | zero => exact absurd HA.out (by simp [hortatorref7_Bound.l0])
  | succ k1 =>
   have H := HA.out
   clear HA
   simp only [hortatorref7_Bound.l0] at H
   have HC3 := Aside0.mk H
   clear H
   go_upto_region 3 with (fail)
   go_cut [19] (fun v19 wc => ∃ (kq : Nat) (x19_2 : Bool), v19 = .bool x19_2 ∧ Aside0 (hortatorref7_Bound.j1 kq l0 a1 x5_1 x6_1 x19_2 = some r) ∧ Aside0 (kq ≤ k1) ∧ Aside0 (Below w.heap.size w wc))
   case first =>
    have H := HC3.out
    clear HC3
    by_cases c4 : x6_1 < (l0.length : Int)
    ·rw [if_pos c4] at H
     have c4b0 : decide (x6_1 < (l0.length : Int)) = true := decide_eq_true c4
     clear c4
     ((skip))
     replace H := Option.bind_eq_some_iff.mp H
     obtain ⟨t197, A50, H⟩ := H
     have A5 := Aside0.mk A50
     clear A50
     by_cases c6 : t197 = true
     ·subst c6
      have H1 : ((hortatorref7_in.f a1 0 20000).bind fun t198 => (hortatorref7_Bound.j1 k1 l0 a1 x5_1 x6_1 t198)) = some r := by rw [if_pos rfl] at H; exact H
      clear H
      have H := H1
      clear H1
      replace H := Option.bind_eq_some_iff.mp H
      obtain ⟨t198, A70, H⟩ := H
      have A7 := Aside0.mk A70
      clear A70
      have H' := Aside0.mk H
      clear H
      go_wp2_with (first | (go_at_call 29; (with_reducible refine (hortatorref7_Loads.calls k1 _ _ l0 true _ ?side1 ?side2 A5.out).mono ?_); (case side1 => repeat ((exact (Kd.C_below HR0.out HB.out)))); (case side2 => exact HC0.out); rintro e w8 ⟨rfl, hb⟩; have n0_ := Aside0.mk (below_step (by repeat ((with_reducible (exact HB.out)))) hb); clear HB; have HB := n0_; clear n0_; (try clear hb); (try clear hb2); (try clear hk); (try clear hi)) | (go_at_call 44; (with_reducible refine (hortatorref7_in.calls a1 0 20000 t198 _ A7.out).mono ?_); rintro e w' ⟨rfl, ⟨nd, rfl⟩⟩))
      go_meet
      case rel => exact ⟨_, (t198), (by (rfl)), H', ⟨by have := HK1.out; (omega)⟩, ⟨by repeat ((with_reducible first | exact HB.out | apply pw_below_drewN))⟩⟩
     ·replace c6 := Bool.eq_false_iff.mpr c6
      subst c6
      have H1 : (hortatorref7_Bound.j1 k1 l0 a1 x5_1 x6_1 false) = some r := by rw [if_neg (show ¬ (false = true) by decide)] at H; exact H
      clear H
      have H := H1
      clear H1
      have H' := Aside0.mk H
      clear H
      go_wp2_with ((go_at_call 29; (with_reducible refine (hortatorref7_Loads.calls k1 _ _ l0 false _ ?side1 ?side2 A5.out).mono ?_); (case side1 => repeat ((exact (Kd.C_below HR0.out HB.out)))); (case side2 => exact HC0.out); rintro e w9 ⟨rfl, hb⟩; have n0_ := Aside0.mk (below_step (by repeat ((with_reducible (exact HB.out)))) hb); clear HB; have HB := n0_; clear n0_; (try clear hb); (try clear hb2); (try clear hk); (try clear hi)))
      go_meet
      case rel => exact ⟨_, (false), (by (rfl)), H', ⟨by have := HK1.out; (omega)⟩, ⟨by repeat ((with_reducible (exact HB.out)))⟩⟩
    ·rw [if_neg c4] at H
     have c4b0 : decide (x6_1 < (l0.length : Int)) = false := decide_eq_false c4
     clear c4
     ((skip))
     have H' := Aside0.mk H
     clear H
     go_wp2
     go_meet
     case rel => exact ⟨_, (false), (by (rfl)), H', ⟨by have := HK1.out; (omega)⟩, ⟨by repeat ((with_reducible (exact HB.out)))⟩⟩
   case rest =>
    clear HC3
    obtain ⟨kq, x19_2, rfl, HA, HJ2, HB⟩ := hcut
    cases kq with
    | zero => exact absurd HA.out (by simp [hortatorref7_Bound.j1])
    | succ kj2 =>
     have H := HA.out
     clear HA
     simp only [hortatorref7_Bound.j1] at H
     by_cases c10 : x19_2 = true
     ·subst c10
      have H1 : (hortatorref7_Bound.l1 kj2 l0 a1 x5_1 x6_1 0) = some r := by rw [if_pos rfl] at H; exact H
      clear H
      have H := H1
      clear H1
      have H' := Aside0.mk H
      clear H
      go_wp2
      go_loopg [5, 7] kj2 (fun kq v5 v7 w' => ∃ (x5_3 : Int) (x7_3 : Int), v5 = .int .i64 x5_3 ∧ v7 = .int .i64 x7_3 ∧ Aside0 (hortatorref7_Bound.l1 kq l0 a1 x5_3 x6_1 x7_3 = some r) ∧ Aside0 (kq ≤ kj2) ∧ Aside0 (Below w.heap.size w w'))
      case atStart => exact ⟨(x5_1), (0), (by (rfl)), (by (rfl)), H', ⟨Nat.le_refl _⟩, ⟨by repeat ((with_reducible (exact HB.out)))⟩⟩
      case round =>
       clear H'
       obtain ⟨x5_3, x7_3, rfl, rfl, HA, HK3, HB⟩ := hrel
       cases gk with
       | zero => exact absurd HA.out (by simp [hortatorref7_Bound.l1])
       | succ k3 =>
        have H := HA.out
        clear HA
        simp only [hortatorref7_Bound.l1] at H
        by_cases c11 : 0 ≤ x6_1
        ·rw [if_pos c11] at H
         have c11b0 : decide (0 ≤ x6_1) = true := decide_eq_true c11
         clear c11
         by_cases c12 : x6_1 < (l0.length : Int)
         ·rw [if_pos c12] at H
          have c12b0 : decide (x6_1 < (l0.length : Int)) = true := decide_eq_true c12
          clear c12
          by_cases c13 : (wrap64 (x7_3 + ((rd_T31 l0 x6_1).f1))) ≤ a1
          ·rw [if_pos c13] at H
           have c13b0 : decide ((wrap64 (x7_3 + ((rd_T31 l0 x6_1).f1))) ≤ a1) = true := decide_eq_true c13
           clear c13
           have H' := Aside0.mk H
           clear H
           have p199 : 0 ≤ (x6_1 : Int) := of_decide_eq_true (by (with_reducible assumption))
           have q199 : x6_1 < (l0.length : Int) := of_decide_eq_true (by (with_reducible assumption))
           obtain ⟨ad199, e199, hx199_0, hx199_1, hx199_2⟩ := at_T31 HR0.out x6_1 p199 q199
           cases e199
           replace hx199_0 := (HB.out.cell (World.block_lt_of_cell? w _ hx199_0)).trans hx199_0
           replace hx199_1 := (HB.out.cell (World.block_lt_of_cell? w _ hx199_1)).trans hx199_1
           replace hx199_2 := (HB.out.cell (World.block_lt_of_cell? w _ hx199_2)).trans hx199_2
           replace p199 := eq_true p199
           replace q199 := eq_true q199
           have p200 : 0 ≤ (x6_1 : Int) := of_decide_eq_true (by (with_reducible assumption))
           have q200 : x6_1 < (l0.length : Int) := of_decide_eq_true (by (with_reducible assumption))
           obtain ⟨ad200, e200, hx200_0, hx200_1, hx200_2⟩ := at_T31 HR0.out x6_1 p200 q200
           obtain rfl : ad199 = ad200 := (by injection e200)
           replace hx200_0 := (HB.out.cell (World.block_lt_of_cell? w _ hx200_0)).trans hx200_0
           replace hx200_1 := (HB.out.cell (World.block_lt_of_cell? w _ hx200_1)).trans hx200_1
           replace hx200_2 := (HB.out.cell (World.block_lt_of_cell? w _ hx200_2)).trans hx200_2
           replace p200 := eq_true p200
           replace q200 := eq_true q200
           have p201 : 0 ≤ (x6_1 : Int) := of_decide_eq_true (by (with_reducible assumption))
           have q201 : x6_1 < (l0.length : Int) := of_decide_eq_true (by (with_reducible assumption))
           obtain ⟨ad201, e201, hx201_0, hx201_1, hx201_2⟩ := at_T31 HR0.out x6_1 p201 q201
           obtain rfl : ad199 = ad201 := (by injection e201)
           replace hx201_0 := (HB.out.cell (World.block_lt_of_cell? w _ hx201_0)).trans hx201_0
           replace hx201_1 := (HB.out.cell (World.block_lt_of_cell? w _ hx201_1)).trans hx201_1
           replace hx201_2 := (HB.out.cell (World.block_lt_of_cell? w _ hx201_2)).trans hx201_2
           replace p201 := eq_true p201
           replace q201 := eq_true q201
           go_wp2
           go_roundg k3
           case measure => have := HK1.out; have := HJ2.out; have := HK3.out; omega
           case rel => exact ⟨(wrap64 (x5_3 + ((rd_T31 l0 x6_1).f0))), (wrap64 (x7_3 + ((rd_T31 l0 x6_1).f2))), (by (rfl)), (by (rfl)), H', ⟨by have := HK1.out; have := HJ2.out; have := HK3.out; omega⟩, ⟨by repeat ((with_reducible (exact HB.out)))⟩⟩
          ·rw [if_neg c13] at H
           have c13b0 : decide ((wrap64 (x7_3 + ((rd_T31 l0 x6_1).f1))) ≤ a1) = false := decide_eq_false c13
           clear c13
           have H' := Aside0.mk H
           clear H
           have p199 : 0 ≤ (x6_1 : Int) := of_decide_eq_true (by (with_reducible assumption))
           have q199 : x6_1 < (l0.length : Int) := of_decide_eq_true (by (with_reducible assumption))
           obtain ⟨ad199, e199, hx199_0, hx199_1, hx199_2⟩ := at_T31 HR0.out x6_1 p199 q199
           cases e199
           replace hx199_0 := (HB.out.cell (World.block_lt_of_cell? w _ hx199_0)).trans hx199_0
           replace hx199_1 := (HB.out.cell (World.block_lt_of_cell? w _ hx199_1)).trans hx199_1
           replace hx199_2 := (HB.out.cell (World.block_lt_of_cell? w _ hx199_2)).trans hx199_2
           replace p199 := eq_true p199
           replace q199 := eq_true q199
           go_wp2
           go_roundg k3
           case measure => have := HK1.out; have := HJ2.out; have := HK3.out; omega
           case rel => exact ⟨(x5_3), (wrap64 (x6_1 + 1)), (by (rfl)), (by (rfl)), H', ⟨by have := HK1.out; have := HJ2.out; have := HK3.out; omega⟩, ⟨by repeat ((with_reducible (exact HB.out)))⟩⟩
         ·rw [if_neg c12] at H
          exact absurd H (by simp)
        ·rw [if_neg c11] at H
         exact absurd H (by simp)
     ·replace c10 := Bool.eq_false_iff.mpr c10
      subst c10
      have H1 : (some x5_1) = some r := by rw [if_neg (show ¬ (false = true) by decide)] at H; exact H
      clear H
      have H := H1
      clear H1
      obtain rfl := Option.some.inj H
      go_wp2
      go_ret
      exact ⟨by (rfl), by repeat ((with_reducible (exact HB.out)))⟩

end Go.Proofs.YtddepomgaeadpaaGreatDoor.PAll
