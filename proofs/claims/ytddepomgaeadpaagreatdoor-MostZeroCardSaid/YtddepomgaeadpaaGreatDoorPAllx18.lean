-- Written by a program of this session (wip/pp.py) over the kit's print, with hand-proved contracts beside it.
import Derived.Test.YtddepomgaeadpaaGreatDoorPAllx0
import Derived.Test.YtddepomgaeadpaaGreatDoorPAllx1
import Derived.Test.YtddepomgaeadpaaGreatDoorPAllx2
import Derived.Test.YtddepomgaeadpaaGreatDoorPAllx3
import Derived.Test.YtddepomgaeadpaaGreatDoorPAllx4
namespace Go.Proofs.YtddepomgaeadpaaGreatDoor.PAll
open Go.Shelf Go.Lib Go.RowKit Go.Proofs.YtddepomgaeadpaaGreatDoorW.PrintWords Go.Proofs.YtddepomgaeadpaaGreatDoorW.PrintLast Go.Proofs.YtddepomgaeadpaaGreatDoorW.PrintMore
attribute [local go_sem] max2_int min2_int max_two min_two max_three min_three max_four min_four   -- for this text's walks alone
set_option linter.unusedVariables false
set_option linter.unusedSimpArgs false

/-! ### hortatorlaw9_DemandTwo: function 20 -/
def hortatorlaw9_DemandTwo.j0 : Nat → Int → Int → Int → Int → Int → Bool → Option (Bool)
 | 0, _, _, _, _, _, _ => none
 | k + 1, x0, x1, x2, x3, x4, x38 => if x38 = true then (some true) else (if x0 ≤ (mn x2 x4) then (if x1 ≤ (mn x3 x4) then (if (wrap64 (x0 + x1)) > x4 then ((demand_Fits.f k (([(⟨x0, mn x2 x4, x4⟩ : S31), (⟨x1, mn x3 x4, x4⟩ : S31)] : List (S31)))).bind fun t504 => (some (t504 == false))) else ((demand_Fits.f k (([(⟨x0, mn x2 x4, x4⟩ : S31), (⟨x1, mn x3 x4, x4⟩ : S31)] : List (S31)))).bind fun t508 => (some (t508 == (decide ((wrap64 (x0 + x1)) ≤ (mx (mn x2 x4) (mn x3 x4)))))))) else (if (wrap64 (x0 + x1)) > x4 then ((demand_Fits.f k (([(⟨x0, mn x2 x4, x4⟩ : S31), (⟨x1, mn x3 x4, x4⟩ : S31)] : List (S31)))).bind fun t512 => (some (t512 == false))) else ((demand_Fits.f k (([(⟨x0, mn x2 x4, x4⟩ : S31), (⟨x1, mn x3 x4, x4⟩ : S31)] : List (S31)))).bind fun t516 => (some (t516 == false))))) else (if (wrap64 (x0 + x1)) > x4 then ((demand_Fits.f k (([(⟨x0, mn x2 x4, x4⟩ : S31), (⟨x1, mn x3 x4, x4⟩ : S31)] : List (S31)))).bind fun t520 => (some (t520 == false))) else ((demand_Fits.f k (([(⟨x0, mn x2 x4, x4⟩ : S31), (⟨x1, mn x3 x4, x4⟩ : S31)] : List (S31)))).bind fun t524 => (some (t524 == false)))))
def hortatorlaw9_DemandTwo.f (k : Nat) (a0 : Int) (a1 : Int) (a2 : Int) (a3 : Int) (a4 : Int) : Option (Bool) := (hortatorlaw9_begun.f k).bind fun t500 => (if t500 = true then (if (wrap64 (2 + (Go.bits .and .i64 a4 31))) = 0 then (none) else (if (wrap64 (1 + (Int.tmod a2 (wrap64 (2 + (Go.bits .and .i64 a4 31)))))) < 1 then (hortatorlaw9_DemandTwo.j0 k (wrap64 (1 + (Go.bits .and .i64 a0 31))) (wrap64 (1 + (Go.bits .and .i64 a1 31))) (wrap64 (1 + (Int.tmod a2 (wrap64 (2 + (Go.bits .and .i64 a4 31)))))) (wrap64 (1 + (Int.tmod a3 (wrap64 (2 + (Go.bits .and .i64 a4 31)))))) (wrap64 (2 + (Go.bits .and .i64 a4 31))) true) else (hortatorlaw9_DemandTwo.j0 k (wrap64 (1 + (Go.bits .and .i64 a0 31))) (wrap64 (1 + (Go.bits .and .i64 a1 31))) (wrap64 (1 + (Int.tmod a2 (wrap64 (2 + (Go.bits .and .i64 a4 31)))))) (wrap64 (1 + (Int.tmod a3 (wrap64 (2 + (Go.bits .and .i64 a4 31)))))) (wrap64 (2 + (Go.bits .and .i64 a4 31))) (decide ((wrap64 (1 + (Int.tmod a3 (wrap64 (2 + (Go.bits .and .i64 a4 31)))))) < 1))))) else (none))
set_option maxHeartbeats 8000000 in
set_option maxRecDepth 100000 in
theorem hortatorlaw9_DemandTwo.calls (k : Nat) (a0 : Int) (a1 : Int) (a2 : Int) (a3 : Int) (a4 : Int) (r : Bool) (w : World) (h : hortatorlaw9_DemandTwo.f k a0 a1 a2 a3 a4 = some r) :
  Calls Tryz.prog 20 #[.int .i64 a0, .int .i64 a1, .int .i64 a2, .int .i64 a3, .int .i64 a4] w fun e w' => e = .returned (.bool r) ∧ Below w.heap.size w w' := by
 have hu31 := Tryz.underlying31
 have HB := Aside0.mk (Below.refl w.heap.size w)
 have H : ((hortatorlaw9_begun.f k).bind fun t500 => (if t500 = true then (if (wrap64 (2 + (Go.bits .and .i64 a4 31))) = 0 then (none) else (if (wrap64 (1 + (Int.tmod a2 (wrap64 (2 + (Go.bits .and .i64 a4 31)))))) < 1 then (hortatorlaw9_DemandTwo.j0 k (wrap64 (1 + (Go.bits .and .i64 a0 31))) (wrap64 (1 + (Go.bits .and .i64 a1 31))) (wrap64 (1 + (Int.tmod a2 (wrap64 (2 + (Go.bits .and .i64 a4 31)))))) (wrap64 (1 + (Int.tmod a3 (wrap64 (2 + (Go.bits .and .i64 a4 31)))))) (wrap64 (2 + (Go.bits .and .i64 a4 31))) true) else (hortatorlaw9_DemandTwo.j0 k (wrap64 (1 + (Go.bits .and .i64 a0 31))) (wrap64 (1 + (Go.bits .and .i64 a1 31))) (wrap64 (1 + (Int.tmod a2 (wrap64 (2 + (Go.bits .and .i64 a4 31)))))) (wrap64 (1 + (Int.tmod a3 (wrap64 (2 + (Go.bits .and .i64 a4 31)))))) (wrap64 (2 + (Go.bits .and .i64 a4 31))) (decide ((wrap64 (1 + (Int.tmod a3 (wrap64 (2 + (Go.bits .and .i64 a4 31)))))) < 1))))) else (none))) = some r := h
 clear h
 replace H := Option.bind_eq_some_iff.mp H
 obtain ⟨t500, A60, H⟩ := H
 have A6 := Aside0.mk A60
 clear A60
 by_cases c7 : t500 = true
 ·subst c7
  have H1 : (if (wrap64 (2 + (Go.bits .and .i64 a4 31))) = 0 then (none) else (if (wrap64 (1 + (Int.tmod a2 (wrap64 (2 + (Go.bits .and .i64 a4 31)))))) < 1 then (hortatorlaw9_DemandTwo.j0 k (wrap64 (1 + (Go.bits .and .i64 a0 31))) (wrap64 (1 + (Go.bits .and .i64 a1 31))) (wrap64 (1 + (Int.tmod a2 (wrap64 (2 + (Go.bits .and .i64 a4 31)))))) (wrap64 (1 + (Int.tmod a3 (wrap64 (2 + (Go.bits .and .i64 a4 31)))))) (wrap64 (2 + (Go.bits .and .i64 a4 31))) true) else (hortatorlaw9_DemandTwo.j0 k (wrap64 (1 + (Go.bits .and .i64 a0 31))) (wrap64 (1 + (Go.bits .and .i64 a1 31))) (wrap64 (1 + (Int.tmod a2 (wrap64 (2 + (Go.bits .and .i64 a4 31)))))) (wrap64 (1 + (Int.tmod a3 (wrap64 (2 + (Go.bits .and .i64 a4 31)))))) (wrap64 (2 + (Go.bits .and .i64 a4 31))) (decide ((wrap64 (1 + (Int.tmod a3 (wrap64 (2 + (Go.bits .and .i64 a4 31)))))) < 1))))) = some r := by rw [if_pos rfl] at H; exact H
  clear H
  have H := H1
  clear H1
  by_cases c8 : (wrap64 (2 + (Go.bits .and .i64 a4 31))) = 0
  ·rw [if_pos c8] at H
   exact absurd H (by simp)
  ·rw [if_neg c8] at H
   have c8b0 : ((wrap64 (2 + (Go.bits .and .i64 a4 31))) == 0) = false := beq_eq_false_iff_ne.mpr c8
   have c8b1 : ((wrap64 (2 + (Go.bits .and .i64 a4 31))) != 0) = true := bne_iff_ne.mpr c8
   have HC9 := Aside0.mk H
   clear H
   go_enter Tryz.func20, Tryz.ntmps20
   go_upto_region 6 with ((go_at_call 23; (with_reducible refine (hortatorlaw9_begun.calls k  true _ A6.out).mono ?_); rintro e w10 ⟨rfl, hb⟩; have n0_ := Aside0.mk (below_step (by repeat ((with_reducible (exact HB.out)))) hb); clear HB; have HB := n0_; clear n0_; (try clear hb); (try clear hb2); (try clear hk); (try clear hi)))
   repeat (go_quiet (fail); go_upto_region 6 with (fail))
   (try simp only [Act.put, List.setIfInBounds_toArray, List.set_cons_zero, List.set_cons_succ])
   go_cut [38] (fun v38 wc => ∃ (kq : Nat) (x38_8 : Bool), v38 = .bool x38_8 ∧ Aside0 (hortatorlaw9_DemandTwo.j0 kq (wrap64 (1 + (Go.bits .and .i64 a0 31))) (wrap64 (1 + (Go.bits .and .i64 a1 31))) (wrap64 (1 + (Int.tmod a2 (wrap64 (2 + (Go.bits .and .i64 a4 31)))))) (wrap64 (1 + (Int.tmod a3 (wrap64 (2 + (Go.bits .and .i64 a4 31)))))) (wrap64 (2 + (Go.bits .and .i64 a4 31))) x38_8 = some r) ∧ Aside0 (kq ≤ k) ∧ Aside0 (Below w.heap.size w wc))
   case first =>
    have H := HC9.out
    clear HC9
    by_cases c11 : (wrap64 (1 + (Int.tmod a2 (wrap64 (2 + (Go.bits .and .i64 a4 31)))))) < 1
    ·rw [if_pos c11] at H
     have c11b0 : decide ((wrap64 (1 + (Int.tmod a2 (wrap64 (2 + (Go.bits .and .i64 a4 31)))))) < 1) = true := decide_eq_true c11
     clear c11
     ((skip))
     have H' := Aside0.mk H
     clear H
     go_wp2
     repeat (go_quiet (fail); try go_wp2)
     go_meet
     case rel => exact ⟨_, (true), (by (rfl)), H', ⟨by (omega)⟩, ⟨by repeat ((with_reducible first | exact HB.out | apply pw_below_drewN))⟩⟩
    ·rw [if_neg c11] at H
     have c11b0 : decide ((wrap64 (1 + (Int.tmod a2 (wrap64 (2 + (Go.bits .and .i64 a4 31)))))) < 1) = false := decide_eq_false c11
     clear c11
     ((skip))
     have H' := Aside0.mk H
     clear H
     go_wp2
     repeat (go_quiet (fail); try go_wp2)
     go_meet
     case rel => exact ⟨_, (decide ((wrap64 (1 + (Int.tmod a3 (wrap64 (2 + (Go.bits .and .i64 a4 31)))))) < 1)), (by (rfl)), H', ⟨by (omega)⟩, ⟨by repeat ((with_reducible first | exact HB.out | apply pw_below_drewN))⟩⟩
   case rest =>
    clear HC9
    try clear c8
    try clear c8b0
    try clear c8b1
    obtain ⟨kq, x38_8, rfl, HA, HJ8, HB⟩ := hcut
    cases kq with
    | zero => exact absurd HA.out (by simp [hortatorlaw9_DemandTwo.j0])
    | succ kj8 =>
     have H := HA.out
     clear HA
     simp only [hortatorlaw9_DemandTwo.j0] at H
     by_cases c12 : x38_8 = true
     ·subst c12
      have H1 : (some true) = some r := by rw [if_pos rfl] at H; exact H
      clear H
      have H := H1
      clear H1
      obtain rfl := Option.some.inj H
      go_wp2
      repeat (go_quiet (fail); try go_wp2)
      go_ret
      exact ⟨by (rfl), by repeat ((with_reducible (exact HB.out)))⟩
     ·replace c12 := Bool.eq_false_iff.mpr c12
      subst c12
      have H1 : (if (wrap64 (1 + (Go.bits .and .i64 a0 31))) ≤ (mn (wrap64 (1 + (Int.tmod a2 (wrap64 (2 + (Go.bits .and .i64 a4 31)))))) (wrap64 (2 + (Go.bits .and .i64 a4 31)))) then (if (wrap64 (1 + (Go.bits .and .i64 a1 31))) ≤ (mn (wrap64 (1 + (Int.tmod a3 (wrap64 (2 + (Go.bits .and .i64 a4 31)))))) (wrap64 (2 + (Go.bits .and .i64 a4 31)))) then (if (wrap64 ((wrap64 (1 + (Go.bits .and .i64 a0 31))) + (wrap64 (1 + (Go.bits .and .i64 a1 31))))) > (wrap64 (2 + (Go.bits .and .i64 a4 31))) then ((demand_Fits.f kj8 (([(⟨(wrap64 (1 + (Go.bits .and .i64 a0 31))), mn (wrap64 (1 + (Int.tmod a2 (wrap64 (2 + (Go.bits .and .i64 a4 31)))))) (wrap64 (2 + (Go.bits .and .i64 a4 31))), (wrap64 (2 + (Go.bits .and .i64 a4 31)))⟩ : S31), (⟨(wrap64 (1 + (Go.bits .and .i64 a1 31))), mn (wrap64 (1 + (Int.tmod a3 (wrap64 (2 + (Go.bits .and .i64 a4 31)))))) (wrap64 (2 + (Go.bits .and .i64 a4 31))), (wrap64 (2 + (Go.bits .and .i64 a4 31)))⟩ : S31)] : List (S31)))).bind fun t504 => (some (t504 == false))) else ((demand_Fits.f kj8 (([(⟨(wrap64 (1 + (Go.bits .and .i64 a0 31))), mn (wrap64 (1 + (Int.tmod a2 (wrap64 (2 + (Go.bits .and .i64 a4 31)))))) (wrap64 (2 + (Go.bits .and .i64 a4 31))), (wrap64 (2 + (Go.bits .and .i64 a4 31)))⟩ : S31), (⟨(wrap64 (1 + (Go.bits .and .i64 a1 31))), mn (wrap64 (1 + (Int.tmod a3 (wrap64 (2 + (Go.bits .and .i64 a4 31)))))) (wrap64 (2 + (Go.bits .and .i64 a4 31))), (wrap64 (2 + (Go.bits .and .i64 a4 31)))⟩ : S31)] : List (S31)))).bind fun t508 => (some (t508 == (decide ((wrap64 ((wrap64 (1 + (Go.bits .and .i64 a0 31))) + (wrap64 (1 + (Go.bits .and .i64 a1 31))))) ≤ (mx (mn (wrap64 (1 + (Int.tmod a2 (wrap64 (2 + (Go.bits .and .i64 a4 31)))))) (wrap64 (2 + (Go.bits .and .i64 a4 31)))) (mn (wrap64 (1 + (Int.tmod a3 (wrap64 (2 + (Go.bits .and .i64 a4 31)))))) (wrap64 (2 + (Go.bits .and .i64 a4 31))))))))))) else (if (wrap64 ((wrap64 (1 + (Go.bits .and .i64 a0 31))) + (wrap64 (1 + (Go.bits .and .i64 a1 31))))) > (wrap64 (2 + (Go.bits .and .i64 a4 31))) then ((demand_Fits.f kj8 (([(⟨(wrap64 (1 + (Go.bits .and .i64 a0 31))), mn (wrap64 (1 + (Int.tmod a2 (wrap64 (2 + (Go.bits .and .i64 a4 31)))))) (wrap64 (2 + (Go.bits .and .i64 a4 31))), (wrap64 (2 + (Go.bits .and .i64 a4 31)))⟩ : S31), (⟨(wrap64 (1 + (Go.bits .and .i64 a1 31))), mn (wrap64 (1 + (Int.tmod a3 (wrap64 (2 + (Go.bits .and .i64 a4 31)))))) (wrap64 (2 + (Go.bits .and .i64 a4 31))), (wrap64 (2 + (Go.bits .and .i64 a4 31)))⟩ : S31)] : List (S31)))).bind fun t512 => (some (t512 == false))) else ((demand_Fits.f kj8 (([(⟨(wrap64 (1 + (Go.bits .and .i64 a0 31))), mn (wrap64 (1 + (Int.tmod a2 (wrap64 (2 + (Go.bits .and .i64 a4 31)))))) (wrap64 (2 + (Go.bits .and .i64 a4 31))), (wrap64 (2 + (Go.bits .and .i64 a4 31)))⟩ : S31), (⟨(wrap64 (1 + (Go.bits .and .i64 a1 31))), mn (wrap64 (1 + (Int.tmod a3 (wrap64 (2 + (Go.bits .and .i64 a4 31)))))) (wrap64 (2 + (Go.bits .and .i64 a4 31))), (wrap64 (2 + (Go.bits .and .i64 a4 31)))⟩ : S31)] : List (S31)))).bind fun t516 => (some (t516 == false))))) else (if (wrap64 ((wrap64 (1 + (Go.bits .and .i64 a0 31))) + (wrap64 (1 + (Go.bits .and .i64 a1 31))))) > (wrap64 (2 + (Go.bits .and .i64 a4 31))) then ((demand_Fits.f kj8 (([(⟨(wrap64 (1 + (Go.bits .and .i64 a0 31))), mn (wrap64 (1 + (Int.tmod a2 (wrap64 (2 + (Go.bits .and .i64 a4 31)))))) (wrap64 (2 + (Go.bits .and .i64 a4 31))), (wrap64 (2 + (Go.bits .and .i64 a4 31)))⟩ : S31), (⟨(wrap64 (1 + (Go.bits .and .i64 a1 31))), mn (wrap64 (1 + (Int.tmod a3 (wrap64 (2 + (Go.bits .and .i64 a4 31)))))) (wrap64 (2 + (Go.bits .and .i64 a4 31))), (wrap64 (2 + (Go.bits .and .i64 a4 31)))⟩ : S31)] : List (S31)))).bind fun t520 => (some (t520 == false))) else ((demand_Fits.f kj8 (([(⟨(wrap64 (1 + (Go.bits .and .i64 a0 31))), mn (wrap64 (1 + (Int.tmod a2 (wrap64 (2 + (Go.bits .and .i64 a4 31)))))) (wrap64 (2 + (Go.bits .and .i64 a4 31))), (wrap64 (2 + (Go.bits .and .i64 a4 31)))⟩ : S31), (⟨(wrap64 (1 + (Go.bits .and .i64 a1 31))), mn (wrap64 (1 + (Int.tmod a3 (wrap64 (2 + (Go.bits .and .i64 a4 31)))))) (wrap64 (2 + (Go.bits .and .i64 a4 31))), (wrap64 (2 + (Go.bits .and .i64 a4 31)))⟩ : S31)] : List (S31)))).bind fun t524 => (some (t524 == false))))) = some r := by rw [if_neg (show ¬ (false = true) by decide)] at H; exact H
      clear H
      have H := H1
      clear H1
      obtain ⟨ji13, hji13⟩ : ∃ j_ : Int, (mn (wrap64 (1 + (Int.tmod a2 (wrap64 (2 + (Go.bits .and .i64 a4 31)))))) (wrap64 (2 + (Go.bits .and .i64 a4 31)))) = j_ := ⟨_, rfl⟩
      replace H : (if (wrap64 (1 + (Go.bits .and .i64 a0 31))) ≤ (ji13) then (if (wrap64 (1 + (Go.bits .and .i64 a1 31))) ≤ (mn (wrap64 (1 + (Int.tmod a3 (wrap64 (2 + (Go.bits .and .i64 a4 31)))))) (wrap64 (2 + (Go.bits .and .i64 a4 31)))) then (if (wrap64 ((wrap64 (1 + (Go.bits .and .i64 a0 31))) + (wrap64 (1 + (Go.bits .and .i64 a1 31))))) > (wrap64 (2 + (Go.bits .and .i64 a4 31))) then ((demand_Fits.f kj8 (([(⟨(wrap64 (1 + (Go.bits .and .i64 a0 31))), ji13, (wrap64 (2 + (Go.bits .and .i64 a4 31)))⟩ : S31), (⟨(wrap64 (1 + (Go.bits .and .i64 a1 31))), mn (wrap64 (1 + (Int.tmod a3 (wrap64 (2 + (Go.bits .and .i64 a4 31)))))) (wrap64 (2 + (Go.bits .and .i64 a4 31))), (wrap64 (2 + (Go.bits .and .i64 a4 31)))⟩ : S31)] : List (S31)))).bind fun t504 => (some (t504 == false))) else ((demand_Fits.f kj8 (([(⟨(wrap64 (1 + (Go.bits .and .i64 a0 31))), ji13, (wrap64 (2 + (Go.bits .and .i64 a4 31)))⟩ : S31), (⟨(wrap64 (1 + (Go.bits .and .i64 a1 31))), mn (wrap64 (1 + (Int.tmod a3 (wrap64 (2 + (Go.bits .and .i64 a4 31)))))) (wrap64 (2 + (Go.bits .and .i64 a4 31))), (wrap64 (2 + (Go.bits .and .i64 a4 31)))⟩ : S31)] : List (S31)))).bind fun t508 => (some (t508 == (decide ((wrap64 ((wrap64 (1 + (Go.bits .and .i64 a0 31))) + (wrap64 (1 + (Go.bits .and .i64 a1 31))))) ≤ (mx (ji13) (mn (wrap64 (1 + (Int.tmod a3 (wrap64 (2 + (Go.bits .and .i64 a4 31)))))) (wrap64 (2 + (Go.bits .and .i64 a4 31))))))))))) else (if (wrap64 ((wrap64 (1 + (Go.bits .and .i64 a0 31))) + (wrap64 (1 + (Go.bits .and .i64 a1 31))))) > (wrap64 (2 + (Go.bits .and .i64 a4 31))) then ((demand_Fits.f kj8 (([(⟨(wrap64 (1 + (Go.bits .and .i64 a0 31))), ji13, (wrap64 (2 + (Go.bits .and .i64 a4 31)))⟩ : S31), (⟨(wrap64 (1 + (Go.bits .and .i64 a1 31))), mn (wrap64 (1 + (Int.tmod a3 (wrap64 (2 + (Go.bits .and .i64 a4 31)))))) (wrap64 (2 + (Go.bits .and .i64 a4 31))), (wrap64 (2 + (Go.bits .and .i64 a4 31)))⟩ : S31)] : List (S31)))).bind fun t512 => (some (t512 == false))) else ((demand_Fits.f kj8 (([(⟨(wrap64 (1 + (Go.bits .and .i64 a0 31))), ji13, (wrap64 (2 + (Go.bits .and .i64 a4 31)))⟩ : S31), (⟨(wrap64 (1 + (Go.bits .and .i64 a1 31))), mn (wrap64 (1 + (Int.tmod a3 (wrap64 (2 + (Go.bits .and .i64 a4 31)))))) (wrap64 (2 + (Go.bits .and .i64 a4 31))), (wrap64 (2 + (Go.bits .and .i64 a4 31)))⟩ : S31)] : List (S31)))).bind fun t516 => (some (t516 == false))))) else (if (wrap64 ((wrap64 (1 + (Go.bits .and .i64 a0 31))) + (wrap64 (1 + (Go.bits .and .i64 a1 31))))) > (wrap64 (2 + (Go.bits .and .i64 a4 31))) then ((demand_Fits.f kj8 (([(⟨(wrap64 (1 + (Go.bits .and .i64 a0 31))), ji13, (wrap64 (2 + (Go.bits .and .i64 a4 31)))⟩ : S31), (⟨(wrap64 (1 + (Go.bits .and .i64 a1 31))), mn (wrap64 (1 + (Int.tmod a3 (wrap64 (2 + (Go.bits .and .i64 a4 31)))))) (wrap64 (2 + (Go.bits .and .i64 a4 31))), (wrap64 (2 + (Go.bits .and .i64 a4 31)))⟩ : S31)] : List (S31)))).bind fun t520 => (some (t520 == false))) else ((demand_Fits.f kj8 (([(⟨(wrap64 (1 + (Go.bits .and .i64 a0 31))), ji13, (wrap64 (2 + (Go.bits .and .i64 a4 31)))⟩ : S31), (⟨(wrap64 (1 + (Go.bits .and .i64 a1 31))), mn (wrap64 (1 + (Int.tmod a3 (wrap64 (2 + (Go.bits .and .i64 a4 31)))))) (wrap64 (2 + (Go.bits .and .i64 a4 31))), (wrap64 (2 + (Go.bits .and .i64 a4 31)))⟩ : S31)] : List (S31)))).bind fun t524 => (some (t524 == false))))) = some r := by (rw [hji13] at H; exact H)
      have hji13_ : (if (wrap64 (2 + (Go.bits .and .i64 a4 31))) < (wrap64 (1 + (Int.tmod a2 (wrap64 (2 + (Go.bits .and .i64 a4 31)))))) then (wrap64 (2 + (Go.bits .and .i64 a4 31))) else (wrap64 (1 + (Int.tmod a2 (wrap64 (2 + (Go.bits .and .i64 a4 31))))))) = ji13 := hji13
      obtain ⟨ji14, hji14⟩ : ∃ j_ : Int, (mn (wrap64 (1 + (Int.tmod a3 (wrap64 (2 + (Go.bits .and .i64 a4 31)))))) (wrap64 (2 + (Go.bits .and .i64 a4 31)))) = j_ := ⟨_, rfl⟩
      replace H : (if (wrap64 (1 + (Go.bits .and .i64 a0 31))) ≤ (ji13) then (if (wrap64 (1 + (Go.bits .and .i64 a1 31))) ≤ (ji14) then (if (wrap64 ((wrap64 (1 + (Go.bits .and .i64 a0 31))) + (wrap64 (1 + (Go.bits .and .i64 a1 31))))) > (wrap64 (2 + (Go.bits .and .i64 a4 31))) then ((demand_Fits.f kj8 (([(⟨(wrap64 (1 + (Go.bits .and .i64 a0 31))), ji13, (wrap64 (2 + (Go.bits .and .i64 a4 31)))⟩ : S31), (⟨(wrap64 (1 + (Go.bits .and .i64 a1 31))), ji14, (wrap64 (2 + (Go.bits .and .i64 a4 31)))⟩ : S31)] : List (S31)))).bind fun t504 => (some (t504 == false))) else ((demand_Fits.f kj8 (([(⟨(wrap64 (1 + (Go.bits .and .i64 a0 31))), ji13, (wrap64 (2 + (Go.bits .and .i64 a4 31)))⟩ : S31), (⟨(wrap64 (1 + (Go.bits .and .i64 a1 31))), ji14, (wrap64 (2 + (Go.bits .and .i64 a4 31)))⟩ : S31)] : List (S31)))).bind fun t508 => (some (t508 == (decide ((wrap64 ((wrap64 (1 + (Go.bits .and .i64 a0 31))) + (wrap64 (1 + (Go.bits .and .i64 a1 31))))) ≤ (mx (ji13) (ji14)))))))) else (if (wrap64 ((wrap64 (1 + (Go.bits .and .i64 a0 31))) + (wrap64 (1 + (Go.bits .and .i64 a1 31))))) > (wrap64 (2 + (Go.bits .and .i64 a4 31))) then ((demand_Fits.f kj8 (([(⟨(wrap64 (1 + (Go.bits .and .i64 a0 31))), ji13, (wrap64 (2 + (Go.bits .and .i64 a4 31)))⟩ : S31), (⟨(wrap64 (1 + (Go.bits .and .i64 a1 31))), ji14, (wrap64 (2 + (Go.bits .and .i64 a4 31)))⟩ : S31)] : List (S31)))).bind fun t512 => (some (t512 == false))) else ((demand_Fits.f kj8 (([(⟨(wrap64 (1 + (Go.bits .and .i64 a0 31))), ji13, (wrap64 (2 + (Go.bits .and .i64 a4 31)))⟩ : S31), (⟨(wrap64 (1 + (Go.bits .and .i64 a1 31))), ji14, (wrap64 (2 + (Go.bits .and .i64 a4 31)))⟩ : S31)] : List (S31)))).bind fun t516 => (some (t516 == false))))) else (if (wrap64 ((wrap64 (1 + (Go.bits .and .i64 a0 31))) + (wrap64 (1 + (Go.bits .and .i64 a1 31))))) > (wrap64 (2 + (Go.bits .and .i64 a4 31))) then ((demand_Fits.f kj8 (([(⟨(wrap64 (1 + (Go.bits .and .i64 a0 31))), ji13, (wrap64 (2 + (Go.bits .and .i64 a4 31)))⟩ : S31), (⟨(wrap64 (1 + (Go.bits .and .i64 a1 31))), ji14, (wrap64 (2 + (Go.bits .and .i64 a4 31)))⟩ : S31)] : List (S31)))).bind fun t520 => (some (t520 == false))) else ((demand_Fits.f kj8 (([(⟨(wrap64 (1 + (Go.bits .and .i64 a0 31))), ji13, (wrap64 (2 + (Go.bits .and .i64 a4 31)))⟩ : S31), (⟨(wrap64 (1 + (Go.bits .and .i64 a1 31))), ji14, (wrap64 (2 + (Go.bits .and .i64 a4 31)))⟩ : S31)] : List (S31)))).bind fun t524 => (some (t524 == false))))) = some r := by (rw [hji14] at H; exact H)
      have hji14_ : (if (wrap64 (2 + (Go.bits .and .i64 a4 31))) < (wrap64 (1 + (Int.tmod a3 (wrap64 (2 + (Go.bits .and .i64 a4 31)))))) then (wrap64 (2 + (Go.bits .and .i64 a4 31))) else (wrap64 (1 + (Int.tmod a3 (wrap64 (2 + (Go.bits .and .i64 a4 31))))))) = ji14 := hji14
      by_cases c15 : (wrap64 (1 + (Go.bits .and .i64 a0 31))) ≤ (ji13)
      ·rw [if_pos c15] at H
       have c15b0 : decide ((wrap64 (1 + (Go.bits .and .i64 a0 31))) ≤ (ji13)) = true := decide_eq_true c15
       clear c15
       by_cases c16 : (wrap64 (1 + (Go.bits .and .i64 a1 31))) ≤ (ji14)
       ·rw [if_pos c16] at H
        have c16b0 : decide ((wrap64 (1 + (Go.bits .and .i64 a1 31))) ≤ (ji14)) = true := decide_eq_true c16
        clear c16
        obtain ⟨ji17, hji17⟩ : ∃ j_ : Int, (mx (ji13) (ji14)) = j_ := ⟨_, rfl⟩
        replace H : (if (wrap64 ((wrap64 (1 + (Go.bits .and .i64 a0 31))) + (wrap64 (1 + (Go.bits .and .i64 a1 31))))) > (wrap64 (2 + (Go.bits .and .i64 a4 31))) then ((demand_Fits.f kj8 (([(⟨(wrap64 (1 + (Go.bits .and .i64 a0 31))), ji13, (wrap64 (2 + (Go.bits .and .i64 a4 31)))⟩ : S31), (⟨(wrap64 (1 + (Go.bits .and .i64 a1 31))), ji14, (wrap64 (2 + (Go.bits .and .i64 a4 31)))⟩ : S31)] : List (S31)))).bind fun t504 => (some (t504 == false))) else ((demand_Fits.f kj8 (([(⟨(wrap64 (1 + (Go.bits .and .i64 a0 31))), ji13, (wrap64 (2 + (Go.bits .and .i64 a4 31)))⟩ : S31), (⟨(wrap64 (1 + (Go.bits .and .i64 a1 31))), ji14, (wrap64 (2 + (Go.bits .and .i64 a4 31)))⟩ : S31)] : List (S31)))).bind fun t508 => (some (t508 == (decide ((wrap64 ((wrap64 (1 + (Go.bits .and .i64 a0 31))) + (wrap64 (1 + (Go.bits .and .i64 a1 31))))) ≤ (ji17))))))) = some r := by (rw [hji17] at H; exact H)
        have hji17_ : (if (ji13) < (ji14) then (ji14) else (ji13)) = ji17 := hji17
        by_cases c18 : (wrap64 ((wrap64 (1 + (Go.bits .and .i64 a0 31))) + (wrap64 (1 + (Go.bits .and .i64 a1 31))))) > (wrap64 (2 + (Go.bits .and .i64 a4 31)))
        ·rw [if_pos c18] at H
         have c18b0 : decide ((wrap64 (2 + (Go.bits .and .i64 a4 31))) < (wrap64 ((wrap64 (1 + (Go.bits .and .i64 a0 31))) + (wrap64 (1 + (Go.bits .and .i64 a1 31)))))) = true := decide_eq_true c18
         clear c18
         obtain ⟨y501, hy501⟩ : ∃ y_ : List (S31), y_ = (([(⟨(wrap64 (1 + (Go.bits .and .i64 a0 31))), ji13, (wrap64 (2 + (Go.bits .and .i64 a4 31)))⟩ : S31), (⟨(wrap64 (1 + (Go.bits .and .i64 a1 31))), ji14, (wrap64 (2 + (Go.bits .and .i64 a4 31)))⟩ : S31)] : List (S31))) := ⟨_, rfl⟩
         replace H : ((demand_Fits.f kj8 y501).bind fun t504 => (some (t504 == false))) = some r := by (rw [hy501]; with_reducible exact H)
         have Ny501 := Aside0.mk hy501
         clear hy501
         replace H := Option.bind_eq_some_iff.mp H
         obtain ⟨t504, A190, H⟩ := H
         have A19 := Aside0.mk A190
         clear A190
         obtain rfl := Option.some.inj H
         go_wp2_with (first | ((with_reducible refine gate_dst (N := 75) rfl ?_); (try (refine gate_guard (by rfl) ?_; dsimp only)); refine Kd.R_lit k31 _ 31 ?hg (N := 75) ?hd (xs := ([(⟨(wrap64 (1 + (Go.bits .and .i64 a0 31))), ji13, (wrap64 (2 + (Go.bits .and .i64 a4 31)))⟩ : S31), (⟨(wrap64 (1 + (Go.bits .and .i64 a1 31))), ji14, (wrap64 (2 + (Go.bits .and .i64 a4 31)))⟩ : S31)] : List (S31))) (inner := [.int .i64 (wrap64 (1 + (Go.bits .and .i64 a0 31))), .int .i64 ji13, .int .i64 (wrap64 (2 + (Go.bits .and .i64 a4 31))), .int .i64 (wrap64 (1 + (Go.bits .and .i64 a1 31))), .int .i64 ji14, .int .i64 (wrap64 (2 + (Go.bits .and .i64 a4 31)))]) (ok := fun _ => True) (okp := fun _ => True) ?hr ?hp (fun _ hk => hk) trivial (Below.refl _ _) (Nat.le_refl _) (by simp) ?_; (case hd => rfl); (case hg => rfl); (case hr => (go_simp; done)); (case hp => exact (Reps.c3 (show Kd.M k31 _ _ _ (⟨(wrap64 (1 + (Go.bits .and .i64 a0 31))), ji13, (wrap64 (2 + (Go.bits .and .i64 a4 31)))⟩ : S31) [.int .i64 (wrap64 (1 + (Go.bits .and .i64 a0 31))), .int .i64 ji13, .int .i64 (wrap64 (2 + (Go.bits .and .i64 a4 31)))] from (k31_mkM _ _ _ (⟨(wrap64 (1 + (Go.bits .and .i64 a0 31))), ji13, (wrap64 (2 + (Go.bits .and .i64 a4 31)))⟩ : S31) )) (Reps.c3 (show Kd.M k31 _ _ _ (⟨(wrap64 (1 + (Go.bits .and .i64 a1 31))), ji14, (wrap64 (2 + (Go.bits .and .i64 a4 31)))⟩ : S31) [.int .i64 (wrap64 (1 + (Go.bits .and .i64 a1 31))), .int .i64 ji14, .int .i64 (wrap64 (2 + (Go.bits .and .i64 a4 31)))] from (k31_mkM _ _ _ (⟨(wrap64 (1 + (Go.bits .and .i64 a1 31))), ji14, (wrap64 (2 + (Go.bits .and .i64 a4 31)))⟩ : S31) )) (Reps.none _ _)))); intro v502 w20 ho21 hb hg_ hnew_; clear hg_ hnew_; ((rw [← Ny501.out] at ho21)); have n0_ := Aside0.mk (Kd.R_lower ho21 (below_size (by repeat ((with_reducible (exact HB.out)))))); have n1_ := Aside0.mk (below_step (by repeat ((with_reducible (exact HB.out)))) hb); clear HB; have HO503 := n0_; have HB := n1_; clear n0_ n1_; clear hb ho21; obtain ⟨Ao22, co22, eo22⟩ := Kd.R_slice HO503.out; subst eo22) | (go_at_call 34; (with_reducible refine (demand_Fits.calls kj8 _ _ y501 t504 _ ?side1 ?side2 A19.out).mono ?_); (case side1 => repeat ((exact (Kd.R_reads' HO503.out).2.2))); (case side2 => exact (Kd.R_reads' HO503.out).2.1); rintro e w23 ⟨rfl, hb⟩; have n0_ := Aside0.mk (Kd.R_below (by exact HO503.out) hb); have n1_ := Aside0.mk (below_step (by repeat ((with_reducible (exact HB.out)))) hb); clear HO503; clear HB; have HO503 := n0_; have HB := n1_; clear n0_ n1_; (try clear hb); (try clear hb2); (try clear hk); (try clear hi)))
         repeat (go_quiet (fail); try go_wp2_with (fail))
         go_ret
         exact ⟨by (simp [errW_none, errW_some] <;> rfl), by repeat ((with_reducible (exact HB.out)))⟩
        ·rw [if_neg c18] at H
         have c18b0 : decide ((wrap64 (2 + (Go.bits .and .i64 a4 31))) < (wrap64 ((wrap64 (1 + (Go.bits .and .i64 a0 31))) + (wrap64 (1 + (Go.bits .and .i64 a1 31)))))) = false := decide_eq_false c18
         clear c18
         obtain ⟨y505, hy505⟩ : ∃ y_ : List (S31), y_ = (([(⟨(wrap64 (1 + (Go.bits .and .i64 a0 31))), ji13, (wrap64 (2 + (Go.bits .and .i64 a4 31)))⟩ : S31), (⟨(wrap64 (1 + (Go.bits .and .i64 a1 31))), ji14, (wrap64 (2 + (Go.bits .and .i64 a4 31)))⟩ : S31)] : List (S31))) := ⟨_, rfl⟩
         replace H : ((demand_Fits.f kj8 y505).bind fun t508 => (some (t508 == (decide ((wrap64 ((wrap64 (1 + (Go.bits .and .i64 a0 31))) + (wrap64 (1 + (Go.bits .and .i64 a1 31))))) ≤ (ji17)))))) = some r := by (rw [hy505]; with_reducible exact H)
         have Ny505 := Aside0.mk hy505
         clear hy505
         replace H := Option.bind_eq_some_iff.mp H
         obtain ⟨t508, A240, H⟩ := H
         have A24 := Aside0.mk A240
         clear A240
         obtain rfl := Option.some.inj H
         go_wp2_with (first | ((with_reducible refine gate_dst (N := 75) rfl ?_); (try (refine gate_guard (by rfl) ?_; dsimp only)); refine Kd.R_lit k31 _ 31 ?hg (N := 75) ?hd (xs := ([(⟨(wrap64 (1 + (Go.bits .and .i64 a0 31))), ji13, (wrap64 (2 + (Go.bits .and .i64 a4 31)))⟩ : S31), (⟨(wrap64 (1 + (Go.bits .and .i64 a1 31))), ji14, (wrap64 (2 + (Go.bits .and .i64 a4 31)))⟩ : S31)] : List (S31))) (inner := [.int .i64 (wrap64 (1 + (Go.bits .and .i64 a0 31))), .int .i64 ji13, .int .i64 (wrap64 (2 + (Go.bits .and .i64 a4 31))), .int .i64 (wrap64 (1 + (Go.bits .and .i64 a1 31))), .int .i64 ji14, .int .i64 (wrap64 (2 + (Go.bits .and .i64 a4 31)))]) (ok := fun _ => True) (okp := fun _ => True) ?hr ?hp (fun _ hk => hk) trivial (Below.refl _ _) (Nat.le_refl _) (by simp) ?_; (case hd => rfl); (case hg => rfl); (case hr => (go_simp; done)); (case hp => exact (Reps.c3 (show Kd.M k31 _ _ _ (⟨(wrap64 (1 + (Go.bits .and .i64 a0 31))), ji13, (wrap64 (2 + (Go.bits .and .i64 a4 31)))⟩ : S31) [.int .i64 (wrap64 (1 + (Go.bits .and .i64 a0 31))), .int .i64 ji13, .int .i64 (wrap64 (2 + (Go.bits .and .i64 a4 31)))] from (k31_mkM _ _ _ (⟨(wrap64 (1 + (Go.bits .and .i64 a0 31))), ji13, (wrap64 (2 + (Go.bits .and .i64 a4 31)))⟩ : S31) )) (Reps.c3 (show Kd.M k31 _ _ _ (⟨(wrap64 (1 + (Go.bits .and .i64 a1 31))), ji14, (wrap64 (2 + (Go.bits .and .i64 a4 31)))⟩ : S31) [.int .i64 (wrap64 (1 + (Go.bits .and .i64 a1 31))), .int .i64 ji14, .int .i64 (wrap64 (2 + (Go.bits .and .i64 a4 31)))] from (k31_mkM _ _ _ (⟨(wrap64 (1 + (Go.bits .and .i64 a1 31))), ji14, (wrap64 (2 + (Go.bits .and .i64 a4 31)))⟩ : S31) )) (Reps.none _ _)))); intro v506 w25 ho26 hb hg_ hnew_; clear hg_ hnew_; ((rw [← Ny505.out] at ho26)); have n0_ := Aside0.mk (Kd.R_lower ho26 (below_size (by repeat ((with_reducible (exact HB.out)))))); have n1_ := Aside0.mk (below_step (by repeat ((with_reducible (exact HB.out)))) hb); clear HB; have HO507 := n0_; have HB := n1_; clear n0_ n1_; clear hb ho26; obtain ⟨Ao27, co27, eo27⟩ := Kd.R_slice HO507.out; subst eo27) | (go_at_call 34; (with_reducible refine (demand_Fits.calls kj8 _ _ y505 t508 _ ?side1 ?side2 A24.out).mono ?_); (case side1 => repeat ((exact (Kd.R_reads' HO507.out).2.2))); (case side2 => exact (Kd.R_reads' HO507.out).2.1); rintro e w28 ⟨rfl, hb⟩; have n0_ := Aside0.mk (Kd.R_below (by exact HO507.out) hb); have n1_ := Aside0.mk (below_step (by repeat ((with_reducible (exact HB.out)))) hb); clear HO507; clear HB; have HO507 := n0_; have HB := n1_; clear n0_ n1_; (try clear hb); (try clear hb2); (try clear hk); (try clear hi)))
         repeat (go_quiet (fail); try go_wp2_with (fail))
         go_ret
         exact ⟨by (rfl), by repeat ((with_reducible (exact HB.out)))⟩
       ·rw [if_neg c16] at H
        have c16b0 : decide ((wrap64 (1 + (Go.bits .and .i64 a1 31))) ≤ (ji14)) = false := decide_eq_false c16
        clear c16
        by_cases c29 : (wrap64 ((wrap64 (1 + (Go.bits .and .i64 a0 31))) + (wrap64 (1 + (Go.bits .and .i64 a1 31))))) > (wrap64 (2 + (Go.bits .and .i64 a4 31)))
        ·rw [if_pos c29] at H
         have c29b0 : decide ((wrap64 (2 + (Go.bits .and .i64 a4 31))) < (wrap64 ((wrap64 (1 + (Go.bits .and .i64 a0 31))) + (wrap64 (1 + (Go.bits .and .i64 a1 31)))))) = true := decide_eq_true c29
         clear c29
         obtain ⟨y509, hy509⟩ : ∃ y_ : List (S31), y_ = (([(⟨(wrap64 (1 + (Go.bits .and .i64 a0 31))), ji13, (wrap64 (2 + (Go.bits .and .i64 a4 31)))⟩ : S31), (⟨(wrap64 (1 + (Go.bits .and .i64 a1 31))), ji14, (wrap64 (2 + (Go.bits .and .i64 a4 31)))⟩ : S31)] : List (S31))) := ⟨_, rfl⟩
         replace H : ((demand_Fits.f kj8 y509).bind fun t512 => (some (t512 == false))) = some r := by (rw [hy509]; with_reducible exact H)
         have Ny509 := Aside0.mk hy509
         clear hy509
         replace H := Option.bind_eq_some_iff.mp H
         obtain ⟨t512, A300, H⟩ := H
         have A30 := Aside0.mk A300
         clear A300
         obtain rfl := Option.some.inj H
         go_wp2_with (first | ((with_reducible refine gate_dst (N := 75) rfl ?_); (try (refine gate_guard (by rfl) ?_; dsimp only)); refine Kd.R_lit k31 _ 31 ?hg (N := 75) ?hd (xs := ([(⟨(wrap64 (1 + (Go.bits .and .i64 a0 31))), ji13, (wrap64 (2 + (Go.bits .and .i64 a4 31)))⟩ : S31), (⟨(wrap64 (1 + (Go.bits .and .i64 a1 31))), ji14, (wrap64 (2 + (Go.bits .and .i64 a4 31)))⟩ : S31)] : List (S31))) (inner := [.int .i64 (wrap64 (1 + (Go.bits .and .i64 a0 31))), .int .i64 ji13, .int .i64 (wrap64 (2 + (Go.bits .and .i64 a4 31))), .int .i64 (wrap64 (1 + (Go.bits .and .i64 a1 31))), .int .i64 ji14, .int .i64 (wrap64 (2 + (Go.bits .and .i64 a4 31)))]) (ok := fun _ => True) (okp := fun _ => True) ?hr ?hp (fun _ hk => hk) trivial (Below.refl _ _) (Nat.le_refl _) (by simp) ?_; (case hd => rfl); (case hg => rfl); (case hr => (go_simp; done)); (case hp => exact (Reps.c3 (show Kd.M k31 _ _ _ (⟨(wrap64 (1 + (Go.bits .and .i64 a0 31))), ji13, (wrap64 (2 + (Go.bits .and .i64 a4 31)))⟩ : S31) [.int .i64 (wrap64 (1 + (Go.bits .and .i64 a0 31))), .int .i64 ji13, .int .i64 (wrap64 (2 + (Go.bits .and .i64 a4 31)))] from (k31_mkM _ _ _ (⟨(wrap64 (1 + (Go.bits .and .i64 a0 31))), ji13, (wrap64 (2 + (Go.bits .and .i64 a4 31)))⟩ : S31) )) (Reps.c3 (show Kd.M k31 _ _ _ (⟨(wrap64 (1 + (Go.bits .and .i64 a1 31))), ji14, (wrap64 (2 + (Go.bits .and .i64 a4 31)))⟩ : S31) [.int .i64 (wrap64 (1 + (Go.bits .and .i64 a1 31))), .int .i64 ji14, .int .i64 (wrap64 (2 + (Go.bits .and .i64 a4 31)))] from (k31_mkM _ _ _ (⟨(wrap64 (1 + (Go.bits .and .i64 a1 31))), ji14, (wrap64 (2 + (Go.bits .and .i64 a4 31)))⟩ : S31) )) (Reps.none _ _)))); intro v510 w31 ho32 hb hg_ hnew_; clear hg_ hnew_; ((rw [← Ny509.out] at ho32)); have n0_ := Aside0.mk (Kd.R_lower ho32 (below_size (by repeat ((with_reducible (exact HB.out)))))); have n1_ := Aside0.mk (below_step (by repeat ((with_reducible (exact HB.out)))) hb); clear HB; have HO511 := n0_; have HB := n1_; clear n0_ n1_; clear hb ho32; obtain ⟨Ao33, co33, eo33⟩ := Kd.R_slice HO511.out; subst eo33) | (go_at_call 34; (with_reducible refine (demand_Fits.calls kj8 _ _ y509 t512 _ ?side1 ?side2 A30.out).mono ?_); (case side1 => repeat ((exact (Kd.R_reads' HO511.out).2.2))); (case side2 => exact (Kd.R_reads' HO511.out).2.1); rintro e w34 ⟨rfl, hb⟩; have n0_ := Aside0.mk (Kd.R_below (by exact HO511.out) hb); have n1_ := Aside0.mk (below_step (by repeat ((with_reducible (exact HB.out)))) hb); clear HO511; clear HB; have HO511 := n0_; have HB := n1_; clear n0_ n1_; (try clear hb); (try clear hb2); (try clear hk); (try clear hi)))
         repeat (go_quiet (fail); try go_wp2_with (fail))
         go_ret
         exact ⟨by (simp [errW_none, errW_some] <;> rfl), by repeat ((with_reducible (exact HB.out)))⟩
        ·rw [if_neg c29] at H
         have c29b0 : decide ((wrap64 (2 + (Go.bits .and .i64 a4 31))) < (wrap64 ((wrap64 (1 + (Go.bits .and .i64 a0 31))) + (wrap64 (1 + (Go.bits .and .i64 a1 31)))))) = false := decide_eq_false c29
         clear c29
         obtain ⟨y513, hy513⟩ : ∃ y_ : List (S31), y_ = (([(⟨(wrap64 (1 + (Go.bits .and .i64 a0 31))), ji13, (wrap64 (2 + (Go.bits .and .i64 a4 31)))⟩ : S31), (⟨(wrap64 (1 + (Go.bits .and .i64 a1 31))), ji14, (wrap64 (2 + (Go.bits .and .i64 a4 31)))⟩ : S31)] : List (S31))) := ⟨_, rfl⟩
         replace H : ((demand_Fits.f kj8 y513).bind fun t516 => (some (t516 == false))) = some r := by (rw [hy513]; with_reducible exact H)
         have Ny513 := Aside0.mk hy513
         clear hy513
         replace H := Option.bind_eq_some_iff.mp H
         obtain ⟨t516, A350, H⟩ := H
         have A35 := Aside0.mk A350
         clear A350
         obtain rfl := Option.some.inj H
         go_wp2_with (first | ((with_reducible refine gate_dst (N := 75) rfl ?_); (try (refine gate_guard (by rfl) ?_; dsimp only)); refine Kd.R_lit k31 _ 31 ?hg (N := 75) ?hd (xs := ([(⟨(wrap64 (1 + (Go.bits .and .i64 a0 31))), ji13, (wrap64 (2 + (Go.bits .and .i64 a4 31)))⟩ : S31), (⟨(wrap64 (1 + (Go.bits .and .i64 a1 31))), ji14, (wrap64 (2 + (Go.bits .and .i64 a4 31)))⟩ : S31)] : List (S31))) (inner := [.int .i64 (wrap64 (1 + (Go.bits .and .i64 a0 31))), .int .i64 ji13, .int .i64 (wrap64 (2 + (Go.bits .and .i64 a4 31))), .int .i64 (wrap64 (1 + (Go.bits .and .i64 a1 31))), .int .i64 ji14, .int .i64 (wrap64 (2 + (Go.bits .and .i64 a4 31)))]) (ok := fun _ => True) (okp := fun _ => True) ?hr ?hp (fun _ hk => hk) trivial (Below.refl _ _) (Nat.le_refl _) (by simp) ?_; (case hd => rfl); (case hg => rfl); (case hr => (go_simp; done)); (case hp => exact (Reps.c3 (show Kd.M k31 _ _ _ (⟨(wrap64 (1 + (Go.bits .and .i64 a0 31))), ji13, (wrap64 (2 + (Go.bits .and .i64 a4 31)))⟩ : S31) [.int .i64 (wrap64 (1 + (Go.bits .and .i64 a0 31))), .int .i64 ji13, .int .i64 (wrap64 (2 + (Go.bits .and .i64 a4 31)))] from (k31_mkM _ _ _ (⟨(wrap64 (1 + (Go.bits .and .i64 a0 31))), ji13, (wrap64 (2 + (Go.bits .and .i64 a4 31)))⟩ : S31) )) (Reps.c3 (show Kd.M k31 _ _ _ (⟨(wrap64 (1 + (Go.bits .and .i64 a1 31))), ji14, (wrap64 (2 + (Go.bits .and .i64 a4 31)))⟩ : S31) [.int .i64 (wrap64 (1 + (Go.bits .and .i64 a1 31))), .int .i64 ji14, .int .i64 (wrap64 (2 + (Go.bits .and .i64 a4 31)))] from (k31_mkM _ _ _ (⟨(wrap64 (1 + (Go.bits .and .i64 a1 31))), ji14, (wrap64 (2 + (Go.bits .and .i64 a4 31)))⟩ : S31) )) (Reps.none _ _)))); intro v514 w36 ho37 hb hg_ hnew_; clear hg_ hnew_; ((rw [← Ny513.out] at ho37)); have n0_ := Aside0.mk (Kd.R_lower ho37 (below_size (by repeat ((with_reducible (exact HB.out)))))); have n1_ := Aside0.mk (below_step (by repeat ((with_reducible (exact HB.out)))) hb); clear HB; have HO515 := n0_; have HB := n1_; clear n0_ n1_; clear hb ho37; obtain ⟨Ao38, co38, eo38⟩ := Kd.R_slice HO515.out; subst eo38) | (go_at_call 34; (with_reducible refine (demand_Fits.calls kj8 _ _ y513 t516 _ ?side1 ?side2 A35.out).mono ?_); (case side1 => repeat ((exact (Kd.R_reads' HO515.out).2.2))); (case side2 => exact (Kd.R_reads' HO515.out).2.1); rintro e w39 ⟨rfl, hb⟩; have n0_ := Aside0.mk (Kd.R_below (by exact HO515.out) hb); have n1_ := Aside0.mk (below_step (by repeat ((with_reducible (exact HB.out)))) hb); clear HO515; clear HB; have HO515 := n0_; have HB := n1_; clear n0_ n1_; (try clear hb); (try clear hb2); (try clear hk); (try clear hi)))
         repeat (go_quiet (fail); try go_wp2_with (fail))
         go_ret
         exact ⟨by (simp [errW_none, errW_some] <;> rfl), by repeat ((with_reducible (exact HB.out)))⟩
      ·rw [if_neg c15] at H
       have c15b0 : decide ((wrap64 (1 + (Go.bits .and .i64 a0 31))) ≤ (ji13)) = false := decide_eq_false c15
       clear c15
       by_cases c40 : (wrap64 ((wrap64 (1 + (Go.bits .and .i64 a0 31))) + (wrap64 (1 + (Go.bits .and .i64 a1 31))))) > (wrap64 (2 + (Go.bits .and .i64 a4 31)))
       ·rw [if_pos c40] at H
        have c40b0 : decide ((wrap64 (2 + (Go.bits .and .i64 a4 31))) < (wrap64 ((wrap64 (1 + (Go.bits .and .i64 a0 31))) + (wrap64 (1 + (Go.bits .and .i64 a1 31)))))) = true := decide_eq_true c40
        clear c40
        obtain ⟨y517, hy517⟩ : ∃ y_ : List (S31), y_ = (([(⟨(wrap64 (1 + (Go.bits .and .i64 a0 31))), ji13, (wrap64 (2 + (Go.bits .and .i64 a4 31)))⟩ : S31), (⟨(wrap64 (1 + (Go.bits .and .i64 a1 31))), ji14, (wrap64 (2 + (Go.bits .and .i64 a4 31)))⟩ : S31)] : List (S31))) := ⟨_, rfl⟩
        replace H : ((demand_Fits.f kj8 y517).bind fun t520 => (some (t520 == false))) = some r := by (rw [hy517]; with_reducible exact H)
        have Ny517 := Aside0.mk hy517
        clear hy517
        replace H := Option.bind_eq_some_iff.mp H
        obtain ⟨t520, A410, H⟩ := H
        have A41 := Aside0.mk A410
        clear A410
        obtain rfl := Option.some.inj H
        go_wp2_with (first | ((with_reducible refine gate_dst (N := 75) rfl ?_); (try (refine gate_guard (by rfl) ?_; dsimp only)); refine Kd.R_lit k31 _ 31 ?hg (N := 75) ?hd (xs := ([(⟨(wrap64 (1 + (Go.bits .and .i64 a0 31))), ji13, (wrap64 (2 + (Go.bits .and .i64 a4 31)))⟩ : S31), (⟨(wrap64 (1 + (Go.bits .and .i64 a1 31))), ji14, (wrap64 (2 + (Go.bits .and .i64 a4 31)))⟩ : S31)] : List (S31))) (inner := [.int .i64 (wrap64 (1 + (Go.bits .and .i64 a0 31))), .int .i64 ji13, .int .i64 (wrap64 (2 + (Go.bits .and .i64 a4 31))), .int .i64 (wrap64 (1 + (Go.bits .and .i64 a1 31))), .int .i64 ji14, .int .i64 (wrap64 (2 + (Go.bits .and .i64 a4 31)))]) (ok := fun _ => True) (okp := fun _ => True) ?hr ?hp (fun _ hk => hk) trivial (Below.refl _ _) (Nat.le_refl _) (by simp) ?_; (case hd => rfl); (case hg => rfl); (case hr => (go_simp; done)); (case hp => exact (Reps.c3 (show Kd.M k31 _ _ _ (⟨(wrap64 (1 + (Go.bits .and .i64 a0 31))), ji13, (wrap64 (2 + (Go.bits .and .i64 a4 31)))⟩ : S31) [.int .i64 (wrap64 (1 + (Go.bits .and .i64 a0 31))), .int .i64 ji13, .int .i64 (wrap64 (2 + (Go.bits .and .i64 a4 31)))] from (k31_mkM _ _ _ (⟨(wrap64 (1 + (Go.bits .and .i64 a0 31))), ji13, (wrap64 (2 + (Go.bits .and .i64 a4 31)))⟩ : S31) )) (Reps.c3 (show Kd.M k31 _ _ _ (⟨(wrap64 (1 + (Go.bits .and .i64 a1 31))), ji14, (wrap64 (2 + (Go.bits .and .i64 a4 31)))⟩ : S31) [.int .i64 (wrap64 (1 + (Go.bits .and .i64 a1 31))), .int .i64 ji14, .int .i64 (wrap64 (2 + (Go.bits .and .i64 a4 31)))] from (k31_mkM _ _ _ (⟨(wrap64 (1 + (Go.bits .and .i64 a1 31))), ji14, (wrap64 (2 + (Go.bits .and .i64 a4 31)))⟩ : S31) )) (Reps.none _ _)))); intro v518 w42 ho43 hb hg_ hnew_; clear hg_ hnew_; ((rw [← Ny517.out] at ho43)); have n0_ := Aside0.mk (Kd.R_lower ho43 (below_size (by repeat ((with_reducible (exact HB.out)))))); have n1_ := Aside0.mk (below_step (by repeat ((with_reducible (exact HB.out)))) hb); clear HB; have HO519 := n0_; have HB := n1_; clear n0_ n1_; clear hb ho43; obtain ⟨Ao44, co44, eo44⟩ := Kd.R_slice HO519.out; subst eo44) | (go_at_call 34; (with_reducible refine (demand_Fits.calls kj8 _ _ y517 t520 _ ?side1 ?side2 A41.out).mono ?_); (case side1 => repeat ((exact (Kd.R_reads' HO519.out).2.2))); (case side2 => exact (Kd.R_reads' HO519.out).2.1); rintro e w45 ⟨rfl, hb⟩; have n0_ := Aside0.mk (Kd.R_below (by exact HO519.out) hb); have n1_ := Aside0.mk (below_step (by repeat ((with_reducible (exact HB.out)))) hb); clear HO519; clear HB; have HO519 := n0_; have HB := n1_; clear n0_ n1_; (try clear hb); (try clear hb2); (try clear hk); (try clear hi)))
        repeat (go_quiet (fail); try go_wp2_with (fail))
        go_ret
        exact ⟨by (simp [errW_none, errW_some] <;> rfl), by repeat ((with_reducible (exact HB.out)))⟩
       ·rw [if_neg c40] at H
        have c40b0 : decide ((wrap64 (2 + (Go.bits .and .i64 a4 31))) < (wrap64 ((wrap64 (1 + (Go.bits .and .i64 a0 31))) + (wrap64 (1 + (Go.bits .and .i64 a1 31)))))) = false := decide_eq_false c40
        clear c40
        obtain ⟨y521, hy521⟩ : ∃ y_ : List (S31), y_ = (([(⟨(wrap64 (1 + (Go.bits .and .i64 a0 31))), ji13, (wrap64 (2 + (Go.bits .and .i64 a4 31)))⟩ : S31), (⟨(wrap64 (1 + (Go.bits .and .i64 a1 31))), ji14, (wrap64 (2 + (Go.bits .and .i64 a4 31)))⟩ : S31)] : List (S31))) := ⟨_, rfl⟩
        replace H : ((demand_Fits.f kj8 y521).bind fun t524 => (some (t524 == false))) = some r := by (rw [hy521]; with_reducible exact H)
        have Ny521 := Aside0.mk hy521
        clear hy521
        replace H := Option.bind_eq_some_iff.mp H
        obtain ⟨t524, A460, H⟩ := H
        have A46 := Aside0.mk A460
        clear A460
        obtain rfl := Option.some.inj H
        go_wp2_with (first | ((with_reducible refine gate_dst (N := 75) rfl ?_); (try (refine gate_guard (by rfl) ?_; dsimp only)); refine Kd.R_lit k31 _ 31 ?hg (N := 75) ?hd (xs := ([(⟨(wrap64 (1 + (Go.bits .and .i64 a0 31))), ji13, (wrap64 (2 + (Go.bits .and .i64 a4 31)))⟩ : S31), (⟨(wrap64 (1 + (Go.bits .and .i64 a1 31))), ji14, (wrap64 (2 + (Go.bits .and .i64 a4 31)))⟩ : S31)] : List (S31))) (inner := [.int .i64 (wrap64 (1 + (Go.bits .and .i64 a0 31))), .int .i64 ji13, .int .i64 (wrap64 (2 + (Go.bits .and .i64 a4 31))), .int .i64 (wrap64 (1 + (Go.bits .and .i64 a1 31))), .int .i64 ji14, .int .i64 (wrap64 (2 + (Go.bits .and .i64 a4 31)))]) (ok := fun _ => True) (okp := fun _ => True) ?hr ?hp (fun _ hk => hk) trivial (Below.refl _ _) (Nat.le_refl _) (by simp) ?_; (case hd => rfl); (case hg => rfl); (case hr => (go_simp; done)); (case hp => exact (Reps.c3 (show Kd.M k31 _ _ _ (⟨(wrap64 (1 + (Go.bits .and .i64 a0 31))), ji13, (wrap64 (2 + (Go.bits .and .i64 a4 31)))⟩ : S31) [.int .i64 (wrap64 (1 + (Go.bits .and .i64 a0 31))), .int .i64 ji13, .int .i64 (wrap64 (2 + (Go.bits .and .i64 a4 31)))] from (k31_mkM _ _ _ (⟨(wrap64 (1 + (Go.bits .and .i64 a0 31))), ji13, (wrap64 (2 + (Go.bits .and .i64 a4 31)))⟩ : S31) )) (Reps.c3 (show Kd.M k31 _ _ _ (⟨(wrap64 (1 + (Go.bits .and .i64 a1 31))), ji14, (wrap64 (2 + (Go.bits .and .i64 a4 31)))⟩ : S31) [.int .i64 (wrap64 (1 + (Go.bits .and .i64 a1 31))), .int .i64 ji14, .int .i64 (wrap64 (2 + (Go.bits .and .i64 a4 31)))] from (k31_mkM _ _ _ (⟨(wrap64 (1 + (Go.bits .and .i64 a1 31))), ji14, (wrap64 (2 + (Go.bits .and .i64 a4 31)))⟩ : S31) )) (Reps.none _ _)))); intro v522 w47 ho48 hb hg_ hnew_; clear hg_ hnew_; ((rw [← Ny521.out] at ho48)); have n0_ := Aside0.mk (Kd.R_lower ho48 (below_size (by repeat ((with_reducible (exact HB.out)))))); have n1_ := Aside0.mk (below_step (by repeat ((with_reducible (exact HB.out)))) hb); clear HB; have HO523 := n0_; have HB := n1_; clear n0_ n1_; clear hb ho48; obtain ⟨Ao49, co49, eo49⟩ := Kd.R_slice HO523.out; subst eo49) | (go_at_call 34; (with_reducible refine (demand_Fits.calls kj8 _ _ y521 t524 _ ?side1 ?side2 A46.out).mono ?_); (case side1 => repeat ((exact (Kd.R_reads' HO523.out).2.2))); (case side2 => exact (Kd.R_reads' HO523.out).2.1); rintro e w50 ⟨rfl, hb⟩; have n0_ := Aside0.mk (Kd.R_below (by exact HO523.out) hb); have n1_ := Aside0.mk (below_step (by repeat ((with_reducible (exact HB.out)))) hb); clear HO523; clear HB; have HO523 := n0_; have HB := n1_; clear n0_ n1_; (try clear hb); (try clear hb2); (try clear hk); (try clear hi)))
        repeat (go_quiet (fail); try go_wp2_with (fail))
        go_ret
        exact ⟨by (simp [errW_none, errW_some] <;> rfl), by repeat ((with_reducible (exact HB.out)))⟩
 ·replace c7 := Bool.eq_false_iff.mpr c7
  subst c7
  have H1 : (none) = some r := by rw [if_neg (show ¬ (false = true) by decide)] at H; exact H
  clear H
  have H := H1
  clear H1
  exact absurd H (by simp)

/-! ### hortatorlaw9_BusySum: function 21 -/
def hortatorlaw9_BusySum.l0 : Nat → List (S31) → Int → Bool → Int → Int → Option (Bool)
 | 0, _, _, _, _, _ => none
 | k + 1, x0, x4, x5, x6, x7 => if x7 < (x0.length : Int) then (if 0 ≤ x7 then (hortatorlaw9_BusySum.l0 k x0 x4 x5 (wrap64 (x6 + ((rd_T31 x0 x7).f0))) (wrap64 (x7 + 1))) else (none)) else (if x5 = true then ((hortatorref7_Loads.f k x0).bind fun t532 => (if t532 = true then (if x4 ≥ x6 then ((busy_Asked.f k x0 x4).bind fun t533 => (some (t533 == x4))) else (none)) else (some true))) else (some true))
def hortatorlaw9_BusySum.f (k : Nat) (l0 : List (S31)) : Option (Bool) := (hortatorlaw9_begun.f k).bind fun t525 => (if t525 = true then ((hortatorlaw9_Loads.f l0).bind fun t526 => ((busy_Time.f k t526).bind fun bt529 => (hortatorlaw9_BusySum.l0 k t526 bt529.1 bt529.2 0 0))) else (none))
set_option maxHeartbeats 8000000 in
set_option maxRecDepth 100000 in
theorem hortatorlaw9_BusySum.calls (k : Nat) (A0 : Option Addr) (c0 : Nat) (l0 : List (S31)) (r : Bool) (w : World) (hr0 : Kd.C k31 w A0 l0.length l0) (hc0 : l0.length ≤ c0) (h : hortatorlaw9_BusySum.f k l0 = some r) :
  Calls Tryz.prog 21 #[.slice A0 l0.length c0] w fun e w' => e = .returned (.bool r) ∧ Below w.heap.size w w' := by
 have HR0 := Aside0.mk hr0
 have HC0 := Aside0.mk hc0
 clear hr0 hc0
 have HB := Aside0.mk (Below.refl w.heap.size w)
 have H : ((hortatorlaw9_begun.f k).bind fun t525 => (if t525 = true then ((hortatorlaw9_Loads.f l0).bind fun t526 => ((busy_Time.f k t526).bind fun bt529 => (hortatorlaw9_BusySum.l0 k t526 bt529.1 bt529.2 0 0))) else (none))) = some r := h
 clear h
 replace H := Option.bind_eq_some_iff.mp H
 obtain ⟨t525, A20, H⟩ := H
 have A2 := Aside0.mk A20
 clear A20
 by_cases c3 : t525 = true
 ·subst c3
  have H1 : ((hortatorlaw9_Loads.f l0).bind fun t526 => ((busy_Time.f k t526).bind fun bt529 => (hortatorlaw9_BusySum.l0 k t526 bt529.1 bt529.2 0 0))) = some r := by rw [if_pos rfl] at H; exact H
  clear H
  have H := H1
  clear H1
  replace H := Option.bind_eq_some_iff.mp H
  obtain ⟨t526, A40, H⟩ := H
  have A4 := Aside0.mk A40
  clear A40
  replace H := Option.bind_eq_some_iff.mp H
  obtain ⟨⟨t529, t530⟩, A50, H⟩ := H
  have A5 := Aside0.mk A50
  clear A50
  have H' := Aside0.mk H
  clear H
  go_enter Tryz.func21, Tryz.ntmps21
  go_wp2_with (first | ((with_reducible refine gate_callee (f := 23) rfl ?_); refine goesL_ (some 8) rfl rfl Tryz.func23 (by kernel_rfl) rfl #[] rfl (by (try simp only [List.map_toArray, List.map_cons, List.map_nil]); (done)) ?_; (with_reducible refine (hortatorlaw9_begun.calls k  true _ A2.out).mono ?_); rintro e w6 ⟨rfl, hb⟩; refine ⟨_, rfl, ?_⟩; have n0_ := Aside0.mk (below_step (by repeat ((with_reducible (exact HB.out)))) hb); clear HB; have HB := n0_; clear n0_; (try clear hb); (try clear hb2); (try clear hk); (try clear hi)) | ((with_reducible refine gate_callee (f := 24) rfl ?_); refine goesL_ (some 12) rfl rfl Tryz.func24 (by kernel_rfl) rfl #[.slice A0 l0.length c0] rfl (by (try simp only [List.map_toArray, List.map_cons, List.map_nil]); (rfl)) ?_; (with_reducible refine (hortatorlaw9_Loads.calls _ _ l0 t526 _ ?side1 ?side2 A4.out).mono ?_); (case side1 => repeat ((exact (Kd.C_below HR0.out HB.out)))); (case side2 => exact HC0.out); rintro e w7 ⟨v527, rfl, ho0, hb⟩; refine ⟨_, rfl, ?_⟩; have n0_ := Aside0.mk (Kd.R_lower ho0 (below_size (by repeat ((with_reducible (exact HB.out)))))); have n1_ := Aside0.mk (below_step (by repeat ((with_reducible (exact HB.out)))) hb); clear HB; have HO528 := n0_; have HB := n1_; clear n0_ n1_; (try clear hb); (try clear hb2); (try clear hk); (try clear hi); (try clear ho0); obtain ⟨Ao8, co8, eo8⟩ := Kd.R_slice HO528.out; subst eo8) | ((with_reducible refine gate_callee (f := 25) rfl ?_); refine goesL_ (some 15) rfl rfl Tryz.func25 (by kernel_rfl) rfl #[.slice Ao8 t526.length co8] rfl (by (try simp only [List.map_toArray, List.map_cons, List.map_nil]); (rfl)) ?_; (with_reducible refine (busy_Time.calls k _ _ t526 t529 t530 _ ?side1 ?side2 A5.out).mono ?_); (case side1 => repeat ((exact (Kd.R_reads' HO528.out).2.2))); (case side2 => exact (Kd.R_reads' HO528.out).2.1); rintro e w9 ⟨rfl, hb⟩; refine ⟨_, rfl, ?_⟩; have n0_ := Aside0.mk (Kd.R_below (by exact HO528.out) hb); have n1_ := Aside0.mk (below_step (by repeat ((with_reducible (exact HB.out)))) hb); clear HO528; clear HB; have HO528 := n0_; have HB := n1_; clear n0_ n1_; (try clear hb); (try clear hb2); (try clear hk); (try clear hi)))
  go_loopg [6, 7] k (fun kq v6 v7 w' => ∃ (x6_1 : Int) (x7_1 : Int), v6 = .int .i64 x6_1 ∧ v7 = .int .i64 x7_1 ∧ Aside0 (hortatorlaw9_BusySum.l0 kq t526 t529 t530 x6_1 x7_1 = some r) ∧ Aside0 (kq ≤ k) ∧ Aside0 (Kd.R k31 31 w' w.heap.size (fun _ => True) (.slice Ao8 t526.length co8) t526) ∧ Aside0 (Below w.heap.size w w'))
  case atStart => exact ⟨(0), (0), (by (rfl)), (by (rfl)), H', ⟨Nat.le_refl _⟩, ⟨by exact HO528.out⟩, ⟨by repeat ((with_reducible (exact HB.out)))⟩⟩
  case round =>
   clear H'
   obtain ⟨x6_1, x7_1, rfl, rfl, HA, HK1, HO_0, HB⟩ := hrel
   cases gk with
   | zero => exact absurd HA.out (by simp [hortatorlaw9_BusySum.l0])
   | succ k1 =>
    have H := HA.out
    clear HA
    simp only [hortatorlaw9_BusySum.l0] at H
    by_cases c10 : x7_1 < (t526.length : Int)
    ·rw [if_pos c10] at H
     have c10b0 : decide (x7_1 < (t526.length : Int)) = true := decide_eq_true c10
     clear c10
     by_cases c11 : 0 ≤ x7_1
     ·rw [if_pos c11] at H
      have c11b0 : decide (0 ≤ x7_1) = true := decide_eq_true c11
      clear c11
      have H' := Aside0.mk H
      clear H
      have p531 : 0 ≤ (x7_1 : Int) := of_decide_eq_true (by (with_reducible assumption))
      have q531 : x7_1 < (t526.length : Int) := of_decide_eq_true (by (with_reducible assumption))
      obtain ⟨ad531, e531, hx531_0, hx531_1, hx531_2⟩ := at_T31 (Kd.R_reads' HO_0.out).2.2 x7_1 p531 q531
      cases e531
      replace p531 := eq_true p531
      replace q531 := eq_true q531
      go_wp2
      go_roundg k1
      case measure => have := HK1.out; omega
      case rel => exact ⟨(wrap64 (x6_1 + ((rd_T31 t526 x7_1).f0))), (wrap64 (x7_1 + 1)), (by (rfl)), (by (rfl)), H', ⟨by have := HK1.out; omega⟩, ⟨by exact HO_0.out⟩, ⟨by repeat ((with_reducible (exact HB.out)))⟩⟩
     ·rw [if_neg c11] at H
      exact absurd H (by simp)
    ·rw [if_neg c10] at H
     have c10b0 : decide (x7_1 < (t526.length : Int)) = false := decide_eq_false c10
     clear c10
     by_cases c12 : t530 = true
     ·subst c12
      have H1 : ((hortatorref7_Loads.f k1 t526).bind fun t532 => (if t532 = true then (if t529 ≥ x6_1 then ((busy_Asked.f k1 t526 t529).bind fun t533 => (some (t533 == t529))) else (none)) else (some true))) = some r := by rw [if_pos rfl] at H; exact H
      clear H
      have H := H1
      clear H1
      replace H := Option.bind_eq_some_iff.mp H
      obtain ⟨t532, A130, H⟩ := H
      have A13 := Aside0.mk A130
      clear A130
      by_cases c14 : t532 = true
      ·subst c14
       have H1 : (if t529 ≥ x6_1 then ((busy_Asked.f k1 t526 t529).bind fun t533 => (some (t533 == t529))) else (none)) = some r := by rw [if_pos rfl] at H; exact H
       clear H
       have H := H1
       clear H1
       by_cases c15 : t529 ≥ x6_1
       ·rw [if_pos c15] at H
        have c15b0 : decide (x6_1 ≤ t529) = true := decide_eq_true c15
        clear c15
        replace H := Option.bind_eq_some_iff.mp H
        obtain ⟨t533, A160, H⟩ := H
        have A16 := Aside0.mk A160
        clear A160
        obtain rfl := Option.some.inj H
        go_wp2_with (first | (go_at_call 29; (with_reducible refine (hortatorref7_Loads.calls k1 _ _ t526 true _ ?side1 ?side2 A13.out).mono ?_); (case side1 => repeat ((exact (Kd.R_reads' HO_0.out).2.2))); (case side2 => exact (Kd.R_reads' HO_0.out).2.1); rintro e w17 ⟨rfl, hb⟩; have n0_ := Aside0.mk (Kd.R_below (by exact HO_0.out) hb); have n1_ := Aside0.mk (below_step (by repeat ((with_reducible (exact HB.out)))) hb); clear HO_0; clear HB; have HO_0 := n0_; have HB := n1_; clear n0_ n1_; (try clear hb); (try clear hb2); (try clear hk); (try clear hi)) | (go_at_call 27; (with_reducible refine (busy_Asked.calls k1 _ _ t526 t529 t533 _ ?side1 ?side2 A16.out).mono ?_); (case side1 => repeat ((exact (Kd.R_reads' HO_0.out).2.2))); (case side2 => exact (Kd.R_reads' HO_0.out).2.1); rintro e w18 ⟨rfl, hb⟩; have n0_ := Aside0.mk (Kd.R_below (by exact HO_0.out) hb); have n1_ := Aside0.mk (below_step (by repeat ((with_reducible (exact HB.out)))) hb); clear HO_0; clear HB; have HO_0 := n0_; have HB := n1_; clear n0_ n1_; (try clear hb); (try clear hb2); (try clear hk); (try clear hi)))
        go_ret
        exact ⟨by (rfl), by repeat ((with_reducible (exact HB.out)))⟩
       ·rw [if_neg c15] at H
        exact absurd H (by simp)
      ·replace c14 := Bool.eq_false_iff.mpr c14
       subst c14
       have H1 : (some true) = some r := by rw [if_neg (show ¬ (false = true) by decide)] at H; exact H
       clear H
       have H := H1
       clear H1
       obtain rfl := Option.some.inj H
       go_wp2_with ((go_at_call 29; (with_reducible refine (hortatorref7_Loads.calls k1 _ _ t526 false _ ?side1 ?side2 A13.out).mono ?_); (case side1 => repeat ((exact (Kd.R_reads' HO_0.out).2.2))); (case side2 => exact (Kd.R_reads' HO_0.out).2.1); rintro e w19 ⟨rfl, hb⟩; have n0_ := Aside0.mk (Kd.R_below (by exact HO_0.out) hb); have n1_ := Aside0.mk (below_step (by repeat ((with_reducible (exact HB.out)))) hb); clear HO_0; clear HB; have HO_0 := n0_; have HB := n1_; clear n0_ n1_; (try clear hb); (try clear hb2); (try clear hk); (try clear hi)))
       go_ret
       exact ⟨by (rfl), by repeat ((with_reducible (exact HB.out)))⟩
     ·replace c12 := Bool.eq_false_iff.mpr c12
      subst c12
      have H1 : (some true) = some r := by rw [if_neg (show ¬ (false = true) by decide)] at H; exact H
      clear H
      have H := H1
      clear H1
      obtain rfl := Option.some.inj H
      go_wp2
      go_ret
      exact ⟨by (rfl), by repeat ((with_reducible (exact HB.out)))⟩
 ·replace c3 := Bool.eq_false_iff.mpr c3
  subst c3
  have H1 : (none) = some r := by rw [if_neg (show ¬ (false = true) by decide)] at H; exact H
  clear H
  have H := H1
  clear H1
  exact absurd H (by simp)

/-! ### hortatorlaw9_MostZero: function 22 -/
def hortatorlaw9_MostZero.f (k : Nat) (l0 : List (S31)) (a1 : Int) (a2 : Int) (a3 : Int) : Option (Bool) := (hortatorlaw9_begun.f k).bind fun t534 => (if t534 = true then ((hortatorlaw9_Loads.f l0).bind fun t535 => ((demand_Fits.f k t535).bind fun t538 => (if t538 = true then ((most_Fit.f k t535 a1 a2 0).bind fun t539 => (if t539 = 0 then ((most_Tight.f k t535 a2 (-1)).bind fun t540 => (some (t540 == 0))) else (none))) else ((most_Fit.f k t535 a1 a2 a3).bind fun t541 => (if t541 = 0 then ((most_Tight.f k t535 a2 a3).bind fun t542 => (some (t542 == 0))) else (none)))))) else (none))
set_option maxHeartbeats 8000000 in
set_option maxRecDepth 100000 in
theorem hortatorlaw9_MostZero.calls (k : Nat) (A0 : Option Addr) (c0 : Nat) (l0 : List (S31)) (a1 : Int) (a2 : Int) (a3 : Int) (r : Bool) (w : World) (hr0 : Kd.C k31 w A0 l0.length l0) (hc0 : l0.length ≤ c0) (h : hortatorlaw9_MostZero.f k l0 a1 a2 a3 = some r) :
  Calls Tryz.prog 22 #[.slice A0 l0.length c0, .int .i64 a1, .int .i64 a2, .int .i64 a3] w fun e w' => e = .returned (.bool r) ∧ Below w.heap.size w w' := by
 have HR0 := Aside0.mk hr0
 have HC0 := Aside0.mk hc0
 clear hr0 hc0
 have HB := Aside0.mk (Below.refl w.heap.size w)
 have H : ((hortatorlaw9_begun.f k).bind fun t534 => (if t534 = true then ((hortatorlaw9_Loads.f l0).bind fun t535 => ((demand_Fits.f k t535).bind fun t538 => (if t538 = true then ((most_Fit.f k t535 a1 a2 0).bind fun t539 => (if t539 = 0 then ((most_Tight.f k t535 a2 (-1)).bind fun t540 => (some (t540 == 0))) else (none))) else ((most_Fit.f k t535 a1 a2 a3).bind fun t541 => (if t541 = 0 then ((most_Tight.f k t535 a2 a3).bind fun t542 => (some (t542 == 0))) else (none)))))) else (none))) = some r := h
 clear h
 replace H := Option.bind_eq_some_iff.mp H
 obtain ⟨t534, A50, H⟩ := H
 have A5 := Aside0.mk A50
 clear A50
 by_cases c6 : t534 = true
 ·subst c6
  have H1 : ((hortatorlaw9_Loads.f l0).bind fun t535 => ((demand_Fits.f k t535).bind fun t538 => (if t538 = true then ((most_Fit.f k t535 a1 a2 0).bind fun t539 => (if t539 = 0 then ((most_Tight.f k t535 a2 (-1)).bind fun t540 => (some (t540 == 0))) else (none))) else ((most_Fit.f k t535 a1 a2 a3).bind fun t541 => (if t541 = 0 then ((most_Tight.f k t535 a2 a3).bind fun t542 => (some (t542 == 0))) else (none)))))) = some r := by rw [if_pos rfl] at H; exact H
  clear H
  have H := H1
  clear H1
  replace H := Option.bind_eq_some_iff.mp H
  obtain ⟨t535, A70, H⟩ := H
  have A7 := Aside0.mk A70
  clear A70
  replace H := Option.bind_eq_some_iff.mp H
  obtain ⟨t538, A80, H⟩ := H
  have A8 := Aside0.mk A80
  clear A80
  by_cases c9 : t538 = true
  ·subst c9
   have H1 : ((most_Fit.f k t535 a1 a2 0).bind fun t539 => (if t539 = 0 then ((most_Tight.f k t535 a2 (-1)).bind fun t540 => (some (t540 == 0))) else (none))) = some r := by rw [if_pos rfl] at H; exact H
   clear H
   have H := H1
   clear H1
   replace H := Option.bind_eq_some_iff.mp H
   obtain ⟨t539, A100, H⟩ := H
   have A10 := Aside0.mk A100
   clear A100
   by_cases c11 : t539 = 0
   ·rw [if_pos c11] at H
    have c11b0 : (t539 == 0) = true := beq_iff_eq.mpr c11
    have c11b1 : (t539 != 0) = false := bne_eq_false_iff_eq.mpr c11
    clear c11
    replace H := Option.bind_eq_some_iff.mp H
    obtain ⟨t540, A120, H⟩ := H
    have A12 := Aside0.mk A120
    clear A120
    obtain rfl := Option.some.inj H
    go_enter Tryz.func22, Tryz.ntmps22
    go_wp2_with (first | ((with_reducible refine gate_callee (f := 23) rfl ?_); refine goesL_ (some 10) rfl rfl Tryz.func23 (by kernel_rfl) rfl #[] rfl (by (try simp only [List.map_toArray, List.map_cons, List.map_nil]); (done)) ?_; (with_reducible refine (hortatorlaw9_begun.calls k  true _ A5.out).mono ?_); rintro e w13 ⟨rfl, hb⟩; refine ⟨_, rfl, ?_⟩; have n0_ := Aside0.mk (below_step (by repeat ((with_reducible (exact HB.out)))) hb); clear HB; have HB := n0_; clear n0_; (try clear hb); (try clear hb2); (try clear hk); (try clear hi)) | ((with_reducible refine gate_callee (f := 24) rfl ?_); refine goesL_ (some 14) rfl rfl Tryz.func24 (by kernel_rfl) rfl #[.slice A0 l0.length c0] rfl (by (try simp only [List.map_toArray, List.map_cons, List.map_nil]); (rfl)) ?_; (with_reducible refine (hortatorlaw9_Loads.calls _ _ l0 t535 _ ?side1 ?side2 A7.out).mono ?_); (case side1 => repeat ((exact (Kd.C_below HR0.out HB.out)))); (case side2 => exact HC0.out); rintro e w14 ⟨v536, rfl, ho0, hb⟩; refine ⟨_, rfl, ?_⟩; have n0_ := Aside0.mk (Kd.R_lower ho0 (below_size (by repeat ((with_reducible (exact HB.out)))))); have n1_ := Aside0.mk (below_step (by repeat ((with_reducible (exact HB.out)))) hb); clear HB; have HO537 := n0_; have HB := n1_; clear n0_ n1_; (try clear hb); (try clear hb2); (try clear hk); (try clear hi); (try clear ho0); obtain ⟨Ao15, co15, eo15⟩ := Kd.R_slice HO537.out; subst eo15) | ((with_reducible refine gate_callee (f := 34) rfl ?_); refine goesL_ (some 16) rfl rfl Tryz.func34 (by kernel_rfl) rfl #[.slice Ao15 t535.length co15] rfl (by (try simp only [List.map_toArray, List.map_cons, List.map_nil]); (rfl)) ?_; (with_reducible refine (demand_Fits.calls k _ _ t535 true _ ?side1 ?side2 A8.out).mono ?_); (case side1 => repeat ((exact (Kd.R_reads' HO537.out).2.2))); (case side2 => exact (Kd.R_reads' HO537.out).2.1); rintro e w16 ⟨rfl, hb⟩; refine ⟨_, rfl, ?_⟩; have n0_ := Aside0.mk (Kd.R_below (by exact HO537.out) hb); have n1_ := Aside0.mk (below_step (by repeat ((with_reducible (exact HB.out)))) hb); clear HO537; clear HB; have HO537 := n0_; have HB := n1_; clear n0_ n1_; (try clear hb); (try clear hb2); (try clear hk); (try clear hi)) | ((with_reducible refine gate_callee (f := 36) rfl ?_); refine goesL_ (some 20) rfl rfl Tryz.func36 (by kernel_rfl) rfl #[.slice Ao15 t535.length co15, .int .i64 a1, .int .i64 a2, .int .i64 0] rfl (by (try simp only [List.map_toArray, List.map_cons, List.map_nil]); (rfl)) ?_; (with_reducible refine (most_Fit.calls k _ _ t535 a1 a2 0 t539 _ ?side1 ?side2 A10.out).mono ?_); (case side1 => repeat ((exact (Kd.R_reads' HO537.out).2.2))); (case side2 => exact (Kd.R_reads' HO537.out).2.1); rintro e w17 ⟨rfl, hb⟩; refine ⟨_, rfl, ?_⟩; have n0_ := Aside0.mk (Kd.R_below (by exact HO537.out) hb); have n1_ := Aside0.mk (below_step (by repeat ((with_reducible (exact HB.out)))) hb); clear HO537; clear HB; have HO537 := n0_; have HB := n1_; clear n0_ n1_; (try clear hb); (try clear hb2); (try clear hk); (try clear hi)) | (go_at_call 38; (with_reducible refine (most_Tight.calls k _ _ t535 a2 (-1) t540 _ ?side1 ?side2 A12.out).mono ?_); (case side1 => repeat ((exact (Kd.R_reads' HO537.out).2.2))); (case side2 => exact (Kd.R_reads' HO537.out).2.1); rintro e w18 ⟨rfl, hb⟩; have n0_ := Aside0.mk (Kd.R_below (by exact HO537.out) hb); have n1_ := Aside0.mk (below_step (by repeat ((with_reducible (exact HB.out)))) hb); clear HO537; clear HB; have HO537 := n0_; have HB := n1_; clear n0_ n1_; (try clear hb); (try clear hb2); (try clear hk); (try clear hi)))
    go_ret
    exact ⟨by (rfl), by repeat ((with_reducible (exact HB.out)))⟩
   ·rw [if_neg c11] at H
    exact absurd H (by simp)
  ·replace c9 := Bool.eq_false_iff.mpr c9
   subst c9
   have H1 : ((most_Fit.f k t535 a1 a2 a3).bind fun t541 => (if t541 = 0 then ((most_Tight.f k t535 a2 a3).bind fun t542 => (some (t542 == 0))) else (none))) = some r := by rw [if_neg (show ¬ (false = true) by decide)] at H; exact H
   clear H
   have H := H1
   clear H1
   replace H := Option.bind_eq_some_iff.mp H
   obtain ⟨t541, A190, H⟩ := H
   have A19 := Aside0.mk A190
   clear A190
   by_cases c20 : t541 = 0
   ·rw [if_pos c20] at H
    have c20b0 : (t541 == 0) = true := beq_iff_eq.mpr c20
    have c20b1 : (t541 != 0) = false := bne_eq_false_iff_eq.mpr c20
    clear c20
    replace H := Option.bind_eq_some_iff.mp H
    obtain ⟨t542, A210, H⟩ := H
    have A21 := Aside0.mk A210
    clear A210
    obtain rfl := Option.some.inj H
    go_enter Tryz.func22, Tryz.ntmps22
    go_wp2_with (first | ((with_reducible refine gate_callee (f := 23) rfl ?_); refine goesL_ (some 10) rfl rfl Tryz.func23 (by kernel_rfl) rfl #[] rfl (by (try simp only [List.map_toArray, List.map_cons, List.map_nil]); (done)) ?_; (with_reducible refine (hortatorlaw9_begun.calls k  true _ A5.out).mono ?_); rintro e w22 ⟨rfl, hb⟩; refine ⟨_, rfl, ?_⟩; have n0_ := Aside0.mk (below_step (by repeat ((with_reducible (exact HB.out)))) hb); clear HB; have HB := n0_; clear n0_; (try clear hb); (try clear hb2); (try clear hk); (try clear hi)) | ((with_reducible refine gate_callee (f := 24) rfl ?_); refine goesL_ (some 14) rfl rfl Tryz.func24 (by kernel_rfl) rfl #[.slice A0 l0.length c0] rfl (by (try simp only [List.map_toArray, List.map_cons, List.map_nil]); (rfl)) ?_; (with_reducible refine (hortatorlaw9_Loads.calls _ _ l0 t535 _ ?side1 ?side2 A7.out).mono ?_); (case side1 => repeat ((exact (Kd.C_below HR0.out HB.out)))); (case side2 => exact HC0.out); rintro e w23 ⟨v536, rfl, ho0, hb⟩; refine ⟨_, rfl, ?_⟩; have n0_ := Aside0.mk (Kd.R_lower ho0 (below_size (by repeat ((with_reducible (exact HB.out)))))); have n1_ := Aside0.mk (below_step (by repeat ((with_reducible (exact HB.out)))) hb); clear HB; have HO537 := n0_; have HB := n1_; clear n0_ n1_; (try clear hb); (try clear hb2); (try clear hk); (try clear hi); (try clear ho0); obtain ⟨Ao24, co24, eo24⟩ := Kd.R_slice HO537.out; subst eo24) | ((with_reducible refine gate_callee (f := 34) rfl ?_); refine goesL_ (some 16) rfl rfl Tryz.func34 (by kernel_rfl) rfl #[.slice Ao24 t535.length co24] rfl (by (try simp only [List.map_toArray, List.map_cons, List.map_nil]); (rfl)) ?_; (with_reducible refine (demand_Fits.calls k _ _ t535 false _ ?side1 ?side2 A8.out).mono ?_); (case side1 => repeat ((exact (Kd.R_reads' HO537.out).2.2))); (case side2 => exact (Kd.R_reads' HO537.out).2.1); rintro e w25 ⟨rfl, hb⟩; refine ⟨_, rfl, ?_⟩; have n0_ := Aside0.mk (Kd.R_below (by exact HO537.out) hb); have n1_ := Aside0.mk (below_step (by repeat ((with_reducible (exact HB.out)))) hb); clear HO537; clear HB; have HO537 := n0_; have HB := n1_; clear n0_ n1_; (try clear hb); (try clear hb2); (try clear hk); (try clear hi)) | ((with_reducible refine gate_callee (f := 36) rfl ?_); refine goesL_ (some 32) rfl rfl Tryz.func36 (by kernel_rfl) rfl #[.slice Ao24 t535.length co24, .int .i64 a1, .int .i64 a2, .int .i64 a3] rfl (by (try simp only [List.map_toArray, List.map_cons, List.map_nil]); (rfl)) ?_; (with_reducible refine (most_Fit.calls k _ _ t535 a1 a2 a3 t541 _ ?side1 ?side2 A19.out).mono ?_); (case side1 => repeat ((exact (Kd.R_reads' HO537.out).2.2))); (case side2 => exact (Kd.R_reads' HO537.out).2.1); rintro e w26 ⟨rfl, hb⟩; refine ⟨_, rfl, ?_⟩; have n0_ := Aside0.mk (Kd.R_below (by exact HO537.out) hb); have n1_ := Aside0.mk (below_step (by repeat ((with_reducible (exact HB.out)))) hb); clear HO537; clear HB; have HO537 := n0_; have HB := n1_; clear n0_ n1_; (try clear hb); (try clear hb2); (try clear hk); (try clear hi)) | (go_at_call 38; (with_reducible refine (most_Tight.calls k _ _ t535 a2 a3 t542 _ ?side1 ?side2 A21.out).mono ?_); (case side1 => repeat ((exact (Kd.R_reads' HO537.out).2.2))); (case side2 => exact (Kd.R_reads' HO537.out).2.1); rintro e w27 ⟨rfl, hb⟩; have n0_ := Aside0.mk (Kd.R_below (by exact HO537.out) hb); have n1_ := Aside0.mk (below_step (by repeat ((with_reducible (exact HB.out)))) hb); clear HO537; clear HB; have HO537 := n0_; have HB := n1_; clear n0_ n1_; (try clear hb); (try clear hb2); (try clear hk); (try clear hi)))
    go_ret
    exact ⟨by (rfl), by repeat ((with_reducible (exact HB.out)))⟩
   ·rw [if_neg c20] at H
    exact absurd H (by simp)
 ·replace c6 := Bool.eq_false_iff.mpr c6
  subst c6
  have H1 : (none) = some r := by rw [if_neg (show ¬ (false = true) by decide)] at H; exact H
  clear H
  have H := H1
  clear H1
  exact absurd H (by simp)

end Go.Proofs.YtddepomgaeadpaaGreatDoor.PAll
