-- Written by a program of this session (wip/pp.py) over the kit's print, with hand-proved contracts beside it.
import Derived.Test.YtddepomgaeadpaaGreatDoorPAllx0
import Derived.Test.YtddepomgaeadpaaGreatDoorWs2
import Derived.Test.YtddepomgaeadpaaGreatDoorPAllx2
import Derived.Test.YtddepomgaeadpaaGreatDoorPAllx4
namespace Go.Proofs.YtddepomgaeadpaaGreatDoor.PAll
open Go.Shelf Go.Lib Go.RowKit Go.Proofs.YtddepomgaeadpaaGreatDoorW.PrintWords Go.Proofs.YtddepomgaeadpaaGreatDoorW.PrintLast Go.Proofs.YtddepomgaeadpaaGreatDoorW.PrintMore
attribute [local go_sem] max2_int min2_int max_two min_two max_three min_three max_four min_four   -- for this text's walks alone
set_option linter.unusedVariables false
set_option linter.unusedSimpArgs false

theorem k31_openM {w : World} {base : Nat} {ok : Nat → Prop} {x : S31} {cs : List Value} (h : k31.M w base ok x cs) : cs = [.int .i64 x.f0, .int .i64 x.f1, .int .i64 x.f2] := by
 obtain ⟨_, _, rfl, rfl, ⟨_, _, rfl, rfl, rfl⟩⟩ := h
 exact rfl
/-! ### hortatorlaw9_DemandLess: function 8 -/
def hortatorlaw9_DemandLess.j0 : Nat → List (S31) → Int → Int → Int → Int → Bool → Option (Bool)
 | 0, _, _, _, _, _, _ => none
 | k + 1, x0, x1, x2, x3, x4, x31 => if x31 = true then (some true) else (if (x0.length : Int) = 0 then (none) else (if 0 ≤ (Int.tmod x1 (x0.length : Int)) then (if (Int.tmod x1 (x0.length : Int)) ≤ (x0.length : Int) then ((some (x0.take ((Int.tmod x1 (x0.length : Int)) : Int).toNat : List (S31))).bind fun y166 => (if ([] : List (S31)).length + y166.length < 5864062014805 then ((some (([] : List (S31)) ++ y166 : List (S31))).bind fun y171 => (if 0 ≤ (wrap64 ((Int.tmod x1 (x0.length : Int)) + 1)) then (if (wrap64 ((Int.tmod x1 (x0.length : Int)) + 1)) ≤ (x0.length : Int) then ((some (x0.drop ((wrap64 ((Int.tmod x1 (x0.length : Int)) + 1)) : Int).toNat : List (S31))).bind fun y174 => (if y171.length + y174.length < 5864062014805 then ((hortatorlaw9_Loads.f x0).bind fun t182 => (if (Int.tmod x1 (x0.length : Int)) < (t182.length : Int) then ((some (t182.set ((Int.tmod x1 (x0.length : Int)) : Int).toNat (⟨wrap64 (((rd_T31 t182 (Int.tmod x1 (x0.length : Int))).f0) - (Go.bits .and .i64 x2 3)), (rd_T31 t182 (Int.tmod x1 (x0.length : Int))).f1, (rd_T31 t182 (Int.tmod x1 (x0.length : Int))).f2⟩ : S31) : List (S31))).bind fun y186 => ((some (y186.set ((Int.tmod x1 (x0.length : Int)) : Int).toNat (⟨(rd_T31 y186 (Int.tmod x1 (x0.length : Int))).f0, (rd_T31 y186 (Int.tmod x1 (x0.length : Int))).f1, wrap64 (((rd_T31 y186 (Int.tmod x1 (x0.length : Int))).f2) + (Go.bits .and .i64 x4 3))⟩ : S31) : List (S31))).bind fun y188 => ((some (y188.set ((Int.tmod x1 (x0.length : Int)) : Int).toNat (⟨(rd_T31 y188 (Int.tmod x1 (x0.length : Int))).f0, mn (wrap64 (((rd_T31 y188 (Int.tmod x1 (x0.length : Int))).f1) + (Go.bits .and .i64 x3 3))) ((rd_T31 y188 (Int.tmod x1 (x0.length : Int))).f2), (rd_T31 y188 (Int.tmod x1 (x0.length : Int))).f2⟩ : S31) : List (S31))).bind fun y191 => ((demand_Fits.f k (y171 ++ y174)).bind fun t192 => (if t192 = true then ((hortatorref7_Load.f ((rd_T31 y191 (Int.tmod x1 (x0.length : Int))).f0) ((rd_T31 y191 (Int.tmod x1 (x0.length : Int))).f1) ((rd_T31 y191 (Int.tmod x1 (x0.length : Int))).f2)).bind fun t194 => (if t194 = true then ((demand_Fits.f k y191).bind fun t195 => (some t195)) else (some true))) else (none)))))) else (none))) else (none))) else (none)) else (none))) else (none))) else (none)) else (none)))
def hortatorlaw9_DemandLess.f (k : Nat) (l0 : List (S31)) (a1 : Int) (a2 : Int) (a3 : Int) (a4 : Int) : Option (Bool) := (hortatorlaw9_begun.f k).bind fun t161 => (if t161 = true then ((hortatorlaw9_Loads.f l0).bind fun t162 => ((demand_Fits.f k t162).bind fun t165 => (if t165 = true then (if (t162.length : Int) = 0 then (hortatorlaw9_DemandLess.j0 k t162 a1 a2 a3 a4 true) else (hortatorlaw9_DemandLess.j0 k t162 a1 a2 a3 a4 (decide (a1 < 0)))) else (hortatorlaw9_DemandLess.j0 k t162 a1 a2 a3 a4 true)))) else (none))
def hortatorlaw9_DemandLess.T8 : Bool × List (List Nat × List Nat) := (true, [([], []), ([], []), ([0, 1], [0, 1]), ([2], [2]), ([], []), ([], []), ([5], [5]), ([4, 6], [4, 6]), ([3, 7, 3], [3, 7]), ([8, 8, 0, 1, 2, 3, 4, 5, 6, 7, 8], [8])])
def hortatorlaw9_DemandLess.B8 : List Nat := [0, 0, 3, 7, 0, 0, 32, 112, 255, 511]
theorem hortatorlaw9_DemandLess.tab8 : rtab .any (opsOf Tryz.f8 8) = hortatorlaw9_DemandLess.T8 := by kernel_rfl
theorem hortatorlaw9_DemandLess.bits8 : waitsOk hortatorlaw9_DemandLess.T8.2 hortatorlaw9_DemandLess.B8 = true := by kernel_rfl
def hortatorlaw9_DemandLess.T12 : Bool × List (List Nat × List Nat) := (true, [([], []), ([], []), ([], []), ([], []), ([2, 3], [2, 3]), ([4], [4]), ([5], [5]), ([], []), ([7], [7]), ([6, 8], [6, 8]), ([], []), ([], []), ([10, 11], [10, 11]), ([12], [12]), ([13], [13]), ([9, 14], [9, 14]), ([0, 1, 0, 1, 2, 3, 4, 5, 6, 7, 8, 9, 10, 11, 12, 13, 14, 15], [0, 1]), ([16, 0, 1, 2, 3, 4, 5, 6, 7, 8, 9, 10, 11, 12, 13, 14, 15], [16]), ([17, 15, 0, 1, 2, 3, 4, 5, 6, 7, 8, 9, 10, 11, 12, 13, 14, 15], [15, 17])])
def hortatorlaw9_DemandLess.B12 : List Nat := [0, 0, 0, 0, 12, 28, 60, 0, 128, 508, 0, 0, 3072, 7168, 15360, 32764, 65535, 131071, 262143]
theorem hortatorlaw9_DemandLess.tab12 : rtab .any (opsOf Tryz.f8 12) = hortatorlaw9_DemandLess.T12 := by kernel_rfl
theorem hortatorlaw9_DemandLess.bits12 : waitsOk hortatorlaw9_DemandLess.T12.2 hortatorlaw9_DemandLess.B12 = true := by kernel_rfl
set_option maxHeartbeats 8000000 in
set_option maxRecDepth 100000 in
theorem hortatorlaw9_DemandLess.calls (k : Nat) (A0 : Option Addr) (c0 : Nat) (l0 : List (S31)) (a1 : Int) (a2 : Int) (a3 : Int) (a4 : Int) (r : Bool) (w : World) (hr0 : Kd.C k31 w A0 l0.length l0) (hc0 : l0.length ≤ c0) (h : hortatorlaw9_DemandLess.f k l0 a1 a2 a3 a4 = some r) :
  Calls Tryz.prog 8 #[.slice A0 l0.length c0, .int .i64 a1, .int .i64 a2, .int .i64 a3, .int .i64 a4] w fun e w' => e = .returned (.bool r) ∧ Below w.heap.size w w' := by
 have hu31 := Tryz.underlying31
 have HR0 := Aside0.mk hr0
 have HC0 := Aside0.mk hc0
 clear hr0 hc0
 have HB := Aside0.mk (Below.refl w.heap.size w)
 have H : ((hortatorlaw9_begun.f k).bind fun t161 => (if t161 = true then ((hortatorlaw9_Loads.f l0).bind fun t162 => ((demand_Fits.f k t162).bind fun t165 => (if t165 = true then (if (t162.length : Int) = 0 then (hortatorlaw9_DemandLess.j0 k t162 a1 a2 a3 a4 true) else (hortatorlaw9_DemandLess.j0 k t162 a1 a2 a3 a4 (decide (a1 < 0)))) else (hortatorlaw9_DemandLess.j0 k t162 a1 a2 a3 a4 true)))) else (none))) = some r := h
 clear h
 replace H := Option.bind_eq_some_iff.mp H
 obtain ⟨t161, A60, H⟩ := H
 have A6 := Aside0.mk A60
 clear A60
 by_cases c7 : t161 = true
 ·subst c7
  have H1 : ((hortatorlaw9_Loads.f l0).bind fun t162 => ((demand_Fits.f k t162).bind fun t165 => (if t165 = true then (if (t162.length : Int) = 0 then (hortatorlaw9_DemandLess.j0 k t162 a1 a2 a3 a4 true) else (hortatorlaw9_DemandLess.j0 k t162 a1 a2 a3 a4 (decide (a1 < 0)))) else (hortatorlaw9_DemandLess.j0 k t162 a1 a2 a3 a4 true)))) = some r := by rw [if_pos rfl] at H; exact H
  clear H
  have H := H1
  clear H1
  replace H := Option.bind_eq_some_iff.mp H
  obtain ⟨t162, A80, H⟩ := H
  have A8 := Aside0.mk A80
  clear A80
  have HC9 := Aside0.mk H
  clear H
  go_enter Tryz.func8, Tryz.ntmps8
  go_upto_region 5 with (first | ((with_reducible refine gate_callee (f := 23) rfl ?_); refine goesL_ (some 15) rfl rfl Tryz.func23 (by kernel_rfl) rfl #[] rfl (by (try simp only [List.map_toArray, List.map_cons, List.map_nil]); (done)) ?_; (with_reducible refine (hortatorlaw9_begun.calls k  true _ A6.out).mono ?_); rintro e w10 ⟨rfl, hb⟩; refine ⟨_, rfl, ?_⟩; have n0_ := Aside0.mk (below_step (by repeat ((with_reducible (exact HB.out)))) hb); clear HB; have HB := n0_; clear n0_; (try clear hb); (try clear hb2); (try clear hk); (try clear hi)) | ((with_reducible refine gate_callee (f := 24) rfl ?_); refine goesL_ (some 19) rfl rfl Tryz.func24 (by kernel_rfl) rfl #[.slice A0 l0.length c0] rfl (by (try simp only [List.map_toArray, List.map_cons, List.map_nil]); (rfl)) ?_; (with_reducible refine (hortatorlaw9_Loads.calls _ _ l0 t162 _ ?side1 ?side2 A8.out).mono ?_); (case side1 => repeat ((exact (Kd.C_below HR0.out HB.out)))); (case side2 => exact HC0.out); rintro e w11 ⟨v163, rfl, ho0, hb⟩; refine ⟨_, rfl, ?_⟩; have n0_ := Aside0.mk (Kd.R_lower ho0 (below_size (by repeat ((with_reducible (exact HB.out)))))); have n1_ := Aside0.mk (below_step (by repeat ((with_reducible (exact HB.out)))) hb); clear HB; have HO164 := n0_; have HB := n1_; clear n0_ n1_; (try clear hb); (try clear hb2); (try clear hk); (try clear hi); (try clear ho0)))
  (try simp only [Act.put, List.setIfInBounds_toArray, List.set_cons_zero, List.set_cons_succ])
  go_cut [31] (fun v31 wc => ∃ (kq : Nat) (x31_8 : Bool), v31 = .bool x31_8 ∧ Aside0 (hortatorlaw9_DemandLess.j0 kq t162 a1 a2 a3 a4 x31_8 = some r) ∧ Aside0 (kq ≤ k) ∧ Aside0 (Kd.R k31 31 wc w.heap.size (fun _ => True) v163 t162) ∧ Aside0 (Below w.heap.size w wc))
  case first =>
   have H := HC9.out
   clear HC9
   replace H := Option.bind_eq_some_iff.mp H
   obtain ⟨t165, A120, H⟩ := H
   have A12 := Aside0.mk A120
   clear A120
   by_cases c13 : t165 = true
   ·subst c13
    have H1 : (if (t162.length : Int) = 0 then (hortatorlaw9_DemandLess.j0 k t162 a1 a2 a3 a4 true) else (hortatorlaw9_DemandLess.j0 k t162 a1 a2 a3 a4 (decide (a1 < 0)))) = some r := by rw [if_pos rfl] at H; exact H
    clear H
    have H := H1
    clear H1
    by_cases c14 : (t162.length : Int) = 0
    ·rw [if_pos c14] at H
     have c14b0 : ((t162.length : Int) == 0) = true := beq_iff_eq.mpr c14
     have c14b1 : ((t162.length : Int) != 0) = false := bne_eq_false_iff_eq.mpr c14
     clear c14
     ((skip))
     have H' := Aside0.mk H
     clear H
     obtain ⟨Ao15, co15, eo15⟩ := Kd.R_slice HO164.out
     subst eo15
     go_wp2_with (((with_reducible refine gate_callee (f := 34) rfl ?_); refine goesL_ (some 21) rfl rfl Tryz.func34 (by kernel_rfl) rfl #[.slice Ao15 t162.length co15] rfl (by (try simp only [List.map_toArray, List.map_cons, List.map_nil]); (rfl)) ?_; (with_reducible refine (demand_Fits.calls k _ _ t162 true _ ?side1 ?side2 A12.out).mono ?_); (case side1 => repeat ((exact (Kd.R_reads' HO164.out).2.2))); (case side2 => exact (Kd.R_reads' HO164.out).2.1); rintro e w16 ⟨rfl, hb⟩; refine ⟨_, rfl, ?_⟩; have n0_ := Aside0.mk (Kd.R_below (by exact HO164.out) hb); have n1_ := Aside0.mk (below_step (by repeat ((with_reducible (exact HB.out)))) hb); clear HO164; clear HB; have HO164 := n0_; have HB := n1_; clear n0_ n1_; (try clear hb); (try clear hb2); (try clear hk); (try clear hi)))
     go_meet
     case rel => exact ⟨_, (true), (by (rfl)), H', ⟨by (omega)⟩, ⟨by exact HO164.out⟩, ⟨by repeat ((with_reducible (exact HB.out)))⟩⟩
    ·rw [if_neg c14] at H
     have c14b0 : ((t162.length : Int) == 0) = false := beq_eq_false_iff_ne.mpr c14
     have c14b1 : ((t162.length : Int) != 0) = true := bne_iff_ne.mpr c14
     have c14b2 : ¬ (t162 = []) := fun h_ => c14 (by rw [h_]; rfl)
     ((skip))
     have H' := Aside0.mk H
     clear H
     obtain ⟨Ao17, co17, eo17⟩ := Kd.R_slice HO164.out
     subst eo17
     go_wp2_with (((with_reducible refine gate_callee (f := 34) rfl ?_); refine goesL_ (some 21) rfl rfl Tryz.func34 (by kernel_rfl) rfl #[.slice Ao17 t162.length co17] rfl (by (try simp only [List.map_toArray, List.map_cons, List.map_nil]); (rfl)) ?_; (with_reducible refine (demand_Fits.calls k _ _ t162 true _ ?side1 ?side2 A12.out).mono ?_); (case side1 => repeat ((exact (Kd.R_reads' HO164.out).2.2))); (case side2 => exact (Kd.R_reads' HO164.out).2.1); rintro e w18 ⟨rfl, hb⟩; refine ⟨_, rfl, ?_⟩; have n0_ := Aside0.mk (Kd.R_below (by exact HO164.out) hb); have n1_ := Aside0.mk (below_step (by repeat ((with_reducible (exact HB.out)))) hb); clear HO164; clear HB; have HO164 := n0_; have HB := n1_; clear n0_ n1_; (try clear hb); (try clear hb2); (try clear hk); (try clear hi)))
     go_meet
     case rel => exact ⟨_, (decide (a1 < 0)), (by (rfl)), H', ⟨by (omega)⟩, ⟨by exact HO164.out⟩, ⟨by repeat ((with_reducible (exact HB.out)))⟩⟩
   ·replace c13 := Bool.eq_false_iff.mpr c13
    subst c13
    have H1 : (hortatorlaw9_DemandLess.j0 k t162 a1 a2 a3 a4 true) = some r := by rw [if_neg (show ¬ (false = true) by decide)] at H; exact H
    clear H
    have H := H1
    clear H1
    have H' := Aside0.mk H
    clear H
    obtain ⟨Ao19, co19, eo19⟩ := Kd.R_slice HO164.out
    subst eo19
    go_wp2_with (((with_reducible refine gate_callee (f := 34) rfl ?_); refine goesL_ (some 21) rfl rfl Tryz.func34 (by kernel_rfl) rfl #[.slice Ao19 t162.length co19] rfl (by (try simp only [List.map_toArray, List.map_cons, List.map_nil]); (rfl)) ?_; (with_reducible refine (demand_Fits.calls k _ _ t162 false _ ?side1 ?side2 A12.out).mono ?_); (case side1 => repeat ((exact (Kd.R_reads' HO164.out).2.2))); (case side2 => exact (Kd.R_reads' HO164.out).2.1); rintro e w20 ⟨rfl, hb⟩; refine ⟨_, rfl, ?_⟩; have n0_ := Aside0.mk (Kd.R_below (by exact HO164.out) hb); have n1_ := Aside0.mk (below_step (by repeat ((with_reducible (exact HB.out)))) hb); clear HO164; clear HB; have HO164 := n0_; have HB := n1_; clear n0_ n1_; (try clear hb); (try clear hb2); (try clear hk); (try clear hi)))
    go_meet
    case rel => exact ⟨_, (true), (by (rfl)), H', ⟨by (omega)⟩, ⟨by exact HO164.out⟩, ⟨by repeat ((with_reducible (exact HB.out)))⟩⟩
  case rest =>
   clear HC9
   obtain ⟨kq, x31_8, rfl, HA, HJ8, HO_0, HB⟩ := hcut
   cases kq with
   | zero => exact absurd HA.out (by simp [hortatorlaw9_DemandLess.j0])
   | succ kj8 =>
    have H := HA.out
    clear HA
    simp only [hortatorlaw9_DemandLess.j0] at H
    by_cases c21 : x31_8 = true
    ·subst c21
     have H1 : (some true) = some r := by rw [if_pos rfl] at H; exact H
     clear H
     have H := H1
     clear H1
     obtain rfl := Option.some.inj H
     go_wp2
     go_ret
     exact ⟨by (rfl), by repeat ((with_reducible (exact HB.out)))⟩
    ·replace c21 := Bool.eq_false_iff.mpr c21
     subst c21
     have H1 : (if (t162.length : Int) = 0 then (none) else (if 0 ≤ (Int.tmod a1 (t162.length : Int)) then (if (Int.tmod a1 (t162.length : Int)) ≤ (t162.length : Int) then ((some (t162.take ((Int.tmod a1 (t162.length : Int)) : Int).toNat : List (S31))).bind fun y166 => (if ([] : List (S31)).length + y166.length < 5864062014805 then ((some (([] : List (S31)) ++ y166 : List (S31))).bind fun y171 => (if 0 ≤ (wrap64 ((Int.tmod a1 (t162.length : Int)) + 1)) then (if (wrap64 ((Int.tmod a1 (t162.length : Int)) + 1)) ≤ (t162.length : Int) then ((some (t162.drop ((wrap64 ((Int.tmod a1 (t162.length : Int)) + 1)) : Int).toNat : List (S31))).bind fun y174 => (if y171.length + y174.length < 5864062014805 then ((hortatorlaw9_Loads.f t162).bind fun t182 => (if (Int.tmod a1 (t162.length : Int)) < (t182.length : Int) then ((some (t182.set ((Int.tmod a1 (t162.length : Int)) : Int).toNat (⟨wrap64 (((rd_T31 t182 (Int.tmod a1 (t162.length : Int))).f0) - (Go.bits .and .i64 a2 3)), (rd_T31 t182 (Int.tmod a1 (t162.length : Int))).f1, (rd_T31 t182 (Int.tmod a1 (t162.length : Int))).f2⟩ : S31) : List (S31))).bind fun y186 => ((some (y186.set ((Int.tmod a1 (t162.length : Int)) : Int).toNat (⟨(rd_T31 y186 (Int.tmod a1 (t162.length : Int))).f0, (rd_T31 y186 (Int.tmod a1 (t162.length : Int))).f1, wrap64 (((rd_T31 y186 (Int.tmod a1 (t162.length : Int))).f2) + (Go.bits .and .i64 a4 3))⟩ : S31) : List (S31))).bind fun y188 => ((some (y188.set ((Int.tmod a1 (t162.length : Int)) : Int).toNat (⟨(rd_T31 y188 (Int.tmod a1 (t162.length : Int))).f0, mn (wrap64 (((rd_T31 y188 (Int.tmod a1 (t162.length : Int))).f1) + (Go.bits .and .i64 a3 3))) ((rd_T31 y188 (Int.tmod a1 (t162.length : Int))).f2), (rd_T31 y188 (Int.tmod a1 (t162.length : Int))).f2⟩ : S31) : List (S31))).bind fun y191 => ((demand_Fits.f kj8 (y171 ++ y174)).bind fun t192 => (if t192 = true then ((hortatorref7_Load.f ((rd_T31 y191 (Int.tmod a1 (t162.length : Int))).f0) ((rd_T31 y191 (Int.tmod a1 (t162.length : Int))).f1) ((rd_T31 y191 (Int.tmod a1 (t162.length : Int))).f2)).bind fun t194 => (if t194 = true then ((demand_Fits.f kj8 y191).bind fun t195 => (some t195)) else (some true))) else (none)))))) else (none))) else (none))) else (none)) else (none))) else (none))) else (none)) else (none))) = some r := by rw [if_neg (show ¬ (false = true) by decide)] at H; exact H
     clear H
     have H := H1
     clear H1
     by_cases c22 : (t162.length : Int) = 0
     ·rw [if_pos c22] at H
      exact absurd H (by simp)
     ·rw [if_neg c22] at H
      have c22b0 : ((t162.length : Int) == 0) = false := beq_eq_false_iff_ne.mpr c22
      have c22b1 : ((t162.length : Int) != 0) = true := bne_iff_ne.mpr c22
      have c22b2 : ¬ (t162 = []) := fun h_ => c22 (by rw [h_]; rfl)
      obtain ⟨ji23, hji23⟩ : ∃ j_ : Int, (Int.tmod a1 (t162.length : Int)) = j_ := ⟨_, rfl⟩
      replace H : (if 0 ≤ (ji23) then (if (ji23) ≤ (t162.length : Int) then ((some (t162.take ((ji23) : Int).toNat : List (S31))).bind fun y166 => (if ([] : List (S31)).length + y166.length < 5864062014805 then ((some (([] : List (S31)) ++ y166 : List (S31))).bind fun y171 => (if 0 ≤ (wrap64 ((ji23) + 1)) then (if (wrap64 ((ji23) + 1)) ≤ (t162.length : Int) then ((some (t162.drop ((wrap64 ((ji23) + 1)) : Int).toNat : List (S31))).bind fun y174 => (if y171.length + y174.length < 5864062014805 then ((hortatorlaw9_Loads.f t162).bind fun t182 => (if (ji23) < (t182.length : Int) then ((some (t182.set ((ji23) : Int).toNat (⟨wrap64 (((rd_T31 t182 (ji23)).f0) - (Go.bits .and .i64 a2 3)), (rd_T31 t182 (ji23)).f1, (rd_T31 t182 (ji23)).f2⟩ : S31) : List (S31))).bind fun y186 => ((some (y186.set ((ji23) : Int).toNat (⟨(rd_T31 y186 (ji23)).f0, (rd_T31 y186 (ji23)).f1, wrap64 (((rd_T31 y186 (ji23)).f2) + (Go.bits .and .i64 a4 3))⟩ : S31) : List (S31))).bind fun y188 => ((some (y188.set ((ji23) : Int).toNat (⟨(rd_T31 y188 (ji23)).f0, mn (wrap64 (((rd_T31 y188 (ji23)).f1) + (Go.bits .and .i64 a3 3))) ((rd_T31 y188 (ji23)).f2), (rd_T31 y188 (ji23)).f2⟩ : S31) : List (S31))).bind fun y191 => ((demand_Fits.f kj8 (y171 ++ y174)).bind fun t192 => (if t192 = true then ((hortatorref7_Load.f ((rd_T31 y191 (ji23)).f0) ((rd_T31 y191 (ji23)).f1) ((rd_T31 y191 (ji23)).f2)).bind fun t194 => (if t194 = true then ((demand_Fits.f kj8 y191).bind fun t195 => (some t195)) else (some true))) else (none)))))) else (none))) else (none))) else (none)) else (none))) else (none))) else (none)) else (none)) = some r := by (rw [hji23] at H; exact H)
      by_cases c24 : 0 ≤ (ji23)
      ·rw [if_pos c24] at H
       have c24b0 := eq_true c24
       have c24b1 : decide (0 ≤ (ji23)) = true := decide_eq_true c24
       clear c24
       by_cases c25 : (ji23) ≤ (t162.length : Int)
       ·rw [if_pos c25] at H
        have c25b0 := eq_true c25
        have c25b1 : decide ((ji23) ≤ (t162.length : Int)) = true := decide_eq_true c25
        clear c25
        obtain ⟨y166, hy166⟩ : ∃ y_ : List (S31), y_ = (t162.take ((ji23) : Int).toNat) := ⟨_, rfl⟩
        replace H : (if ([] : List (S31)).length + y166.length < 5864062014805 then ((some (([] : List (S31)) ++ y166 : List (S31))).bind fun y171 => (if 0 ≤ (wrap64 ((ji23) + 1)) then (if (wrap64 ((ji23) + 1)) ≤ (t162.length : Int) then ((some (t162.drop ((wrap64 ((ji23) + 1)) : Int).toNat : List (S31))).bind fun y174 => (if y171.length + y174.length < 5864062014805 then ((hortatorlaw9_Loads.f t162).bind fun t182 => (if (ji23) < (t182.length : Int) then ((some (t182.set ((ji23) : Int).toNat (⟨wrap64 (((rd_T31 t182 (ji23)).f0) - (Go.bits .and .i64 a2 3)), (rd_T31 t182 (ji23)).f1, (rd_T31 t182 (ji23)).f2⟩ : S31) : List (S31))).bind fun y186 => ((some (y186.set ((ji23) : Int).toNat (⟨(rd_T31 y186 (ji23)).f0, (rd_T31 y186 (ji23)).f1, wrap64 (((rd_T31 y186 (ji23)).f2) + (Go.bits .and .i64 a4 3))⟩ : S31) : List (S31))).bind fun y188 => ((some (y188.set ((ji23) : Int).toNat (⟨(rd_T31 y188 (ji23)).f0, mn (wrap64 (((rd_T31 y188 (ji23)).f1) + (Go.bits .and .i64 a3 3))) ((rd_T31 y188 (ji23)).f2), (rd_T31 y188 (ji23)).f2⟩ : S31) : List (S31))).bind fun y191 => ((demand_Fits.f kj8 (y171 ++ y174)).bind fun t192 => (if t192 = true then ((hortatorref7_Load.f ((rd_T31 y191 (ji23)).f0) ((rd_T31 y191 (ji23)).f1) ((rd_T31 y191 (ji23)).f2)).bind fun t194 => (if t194 = true then ((demand_Fits.f kj8 y191).bind fun t195 => (some t195)) else (some true))) else (none)))))) else (none))) else (none))) else (none)) else (none))) else (none)) = some r := by (have H2_ := (Option.bind_some _ _).symm.trans H; rw [hy166]; with_reducible exact H2_)
        have Ny166 := Aside0.mk hy166
        clear hy166
        by_cases c26 : ([] : List (S31)).length + y166.length < 5864062014805
        ·rw [if_pos c26] at H
         have LMc26 := Aside0.mk c26
         clear c26
         obtain ⟨y171, hy171⟩ : ∃ y_ : List (S31), y_ = (([] : List (S31)) ++ y166) := ⟨_, rfl⟩
         replace H : (if 0 ≤ (wrap64 ((ji23) + 1)) then (if (wrap64 ((ji23) + 1)) ≤ (t162.length : Int) then ((some (t162.drop ((wrap64 ((ji23) + 1)) : Int).toNat : List (S31))).bind fun y174 => (if y171.length + y174.length < 5864062014805 then ((hortatorlaw9_Loads.f t162).bind fun t182 => (if (ji23) < (t182.length : Int) then ((some (t182.set ((ji23) : Int).toNat (⟨wrap64 (((rd_T31 t182 (ji23)).f0) - (Go.bits .and .i64 a2 3)), (rd_T31 t182 (ji23)).f1, (rd_T31 t182 (ji23)).f2⟩ : S31) : List (S31))).bind fun y186 => ((some (y186.set ((ji23) : Int).toNat (⟨(rd_T31 y186 (ji23)).f0, (rd_T31 y186 (ji23)).f1, wrap64 (((rd_T31 y186 (ji23)).f2) + (Go.bits .and .i64 a4 3))⟩ : S31) : List (S31))).bind fun y188 => ((some (y188.set ((ji23) : Int).toNat (⟨(rd_T31 y188 (ji23)).f0, mn (wrap64 (((rd_T31 y188 (ji23)).f1) + (Go.bits .and .i64 a3 3))) ((rd_T31 y188 (ji23)).f2), (rd_T31 y188 (ji23)).f2⟩ : S31) : List (S31))).bind fun y191 => ((demand_Fits.f kj8 (y171 ++ y174)).bind fun t192 => (if t192 = true then ((hortatorref7_Load.f ((rd_T31 y191 (ji23)).f0) ((rd_T31 y191 (ji23)).f1) ((rd_T31 y191 (ji23)).f2)).bind fun t194 => (if t194 = true then ((demand_Fits.f kj8 y191).bind fun t195 => (some t195)) else (some true))) else (none)))))) else (none))) else (none))) else (none)) else (none)) = some r := by (have H2_ := (Option.bind_some _ _).symm.trans H; rw [hy171]; with_reducible exact H2_)
         have Ny171 := Aside0.mk hy171
         clear hy171
         obtain ⟨ji27, hji27⟩ : ∃ j_ : Int, (wrap64 ((ji23) + 1)) = j_ := ⟨_, rfl⟩
         replace H : (if 0 ≤ (ji27) then (if (ji27) ≤ (t162.length : Int) then ((some (t162.drop ((ji27) : Int).toNat : List (S31))).bind fun y174 => (if y171.length + y174.length < 5864062014805 then ((hortatorlaw9_Loads.f t162).bind fun t182 => (if (ji23) < (t182.length : Int) then ((some (t182.set ((ji23) : Int).toNat (⟨wrap64 (((rd_T31 t182 (ji23)).f0) - (Go.bits .and .i64 a2 3)), (rd_T31 t182 (ji23)).f1, (rd_T31 t182 (ji23)).f2⟩ : S31) : List (S31))).bind fun y186 => ((some (y186.set ((ji23) : Int).toNat (⟨(rd_T31 y186 (ji23)).f0, (rd_T31 y186 (ji23)).f1, wrap64 (((rd_T31 y186 (ji23)).f2) + (Go.bits .and .i64 a4 3))⟩ : S31) : List (S31))).bind fun y188 => ((some (y188.set ((ji23) : Int).toNat (⟨(rd_T31 y188 (ji23)).f0, mn (wrap64 (((rd_T31 y188 (ji23)).f1) + (Go.bits .and .i64 a3 3))) ((rd_T31 y188 (ji23)).f2), (rd_T31 y188 (ji23)).f2⟩ : S31) : List (S31))).bind fun y191 => ((demand_Fits.f kj8 (y171 ++ y174)).bind fun t192 => (if t192 = true then ((hortatorref7_Load.f ((rd_T31 y191 (ji23)).f0) ((rd_T31 y191 (ji23)).f1) ((rd_T31 y191 (ji23)).f2)).bind fun t194 => (if t194 = true then ((demand_Fits.f kj8 y191).bind fun t195 => (some t195)) else (some true))) else (none)))))) else (none))) else (none))) else (none)) else (none)) = some r := by (rw [hji27] at H; exact H)
         have hji27w : (IntKind.i64.wrap ((ji23) + 1)) = ji27 := (i64_w _).trans hji27
         by_cases c28 : 0 ≤ (ji27)
         ·rw [if_pos c28] at H
          have c28b0 := eq_true c28
          have c28b1 : decide (0 ≤ (ji27)) = true := decide_eq_true c28
          clear c28
          by_cases c29 : (ji27) ≤ (t162.length : Int)
          ·rw [if_pos c29] at H
           have c29b0 := eq_true c29
           have c29b1 : decide ((ji27) ≤ (t162.length : Int)) = true := decide_eq_true c29
           clear c29
           obtain ⟨y174, hy174⟩ : ∃ y_ : List (S31), y_ = (t162.drop ((ji27) : Int).toNat) := ⟨_, rfl⟩
           replace H : (if y171.length + y174.length < 5864062014805 then ((hortatorlaw9_Loads.f t162).bind fun t182 => (if (ji23) < (t182.length : Int) then ((some (t182.set ((ji23) : Int).toNat (⟨wrap64 (((rd_T31 t182 (ji23)).f0) - (Go.bits .and .i64 a2 3)), (rd_T31 t182 (ji23)).f1, (rd_T31 t182 (ji23)).f2⟩ : S31) : List (S31))).bind fun y186 => ((some (y186.set ((ji23) : Int).toNat (⟨(rd_T31 y186 (ji23)).f0, (rd_T31 y186 (ji23)).f1, wrap64 (((rd_T31 y186 (ji23)).f2) + (Go.bits .and .i64 a4 3))⟩ : S31) : List (S31))).bind fun y188 => ((some (y188.set ((ji23) : Int).toNat (⟨(rd_T31 y188 (ji23)).f0, mn (wrap64 (((rd_T31 y188 (ji23)).f1) + (Go.bits .and .i64 a3 3))) ((rd_T31 y188 (ji23)).f2), (rd_T31 y188 (ji23)).f2⟩ : S31) : List (S31))).bind fun y191 => ((demand_Fits.f kj8 (y171 ++ y174)).bind fun t192 => (if t192 = true then ((hortatorref7_Load.f ((rd_T31 y191 (ji23)).f0) ((rd_T31 y191 (ji23)).f1) ((rd_T31 y191 (ji23)).f2)).bind fun t194 => (if t194 = true then ((demand_Fits.f kj8 y191).bind fun t195 => (some t195)) else (some true))) else (none)))))) else (none))) else (none)) = some r := by (have H2_ := (Option.bind_some _ _).symm.trans H; rw [hy174]; with_reducible exact H2_)
           have Ny174 := Aside0.mk hy174
           clear hy174
           by_cases c30 : y171.length + y174.length < 5864062014805
           ·rw [if_pos c30] at H
            have LMc30 := Aside0.mk c30
            clear c30
            obtain ⟨y179, hy179⟩ : ∃ y_ : List (S31), y_ = (y171 ++ y174) := ⟨_, rfl⟩
            replace H : ((hortatorlaw9_Loads.f t162).bind fun t182 => (if (ji23) < (t182.length : Int) then ((some (t182.set ((ji23) : Int).toNat (⟨wrap64 (((rd_T31 t182 (ji23)).f0) - (Go.bits .and .i64 a2 3)), (rd_T31 t182 (ji23)).f1, (rd_T31 t182 (ji23)).f2⟩ : S31) : List (S31))).bind fun y186 => ((some (y186.set ((ji23) : Int).toNat (⟨(rd_T31 y186 (ji23)).f0, (rd_T31 y186 (ji23)).f1, wrap64 (((rd_T31 y186 (ji23)).f2) + (Go.bits .and .i64 a4 3))⟩ : S31) : List (S31))).bind fun y188 => ((some (y188.set ((ji23) : Int).toNat (⟨(rd_T31 y188 (ji23)).f0, mn (wrap64 (((rd_T31 y188 (ji23)).f1) + (Go.bits .and .i64 a3 3))) ((rd_T31 y188 (ji23)).f2), (rd_T31 y188 (ji23)).f2⟩ : S31) : List (S31))).bind fun y191 => ((demand_Fits.f kj8 y179).bind fun t192 => (if t192 = true then ((hortatorref7_Load.f ((rd_T31 y191 (ji23)).f0) ((rd_T31 y191 (ji23)).f1) ((rd_T31 y191 (ji23)).f2)).bind fun t194 => (if t194 = true then ((demand_Fits.f kj8 y191).bind fun t195 => (some t195)) else (some true))) else (none)))))) else (none))) = some r := by (rw [hy179]; with_reducible exact H)
            have Ny179 := Aside0.mk hy179
            clear hy179
            replace H := Option.bind_eq_some_iff.mp H
            obtain ⟨t182, A310, H⟩ := H
            have A31 := Aside0.mk A310
            clear A310
            by_cases c32 : (ji23) < (t182.length : Int)
            ·rw [if_pos c32] at H
             have c32b0 : decide ((ji23) < (t182.length : Int)) = true := decide_eq_true c32
             clear c32
             obtain ⟨y186, hy186⟩ : ∃ y_ : List (S31), y_ = (t182.set ((ji23) : Int).toNat (⟨wrap64 (((rd_T31 t182 (ji23)).f0) - (Go.bits .and .i64 a2 3)), (rd_T31 t182 (ji23)).f1, (rd_T31 t182 (ji23)).f2⟩ : S31)) := ⟨_, rfl⟩
             replace H : ((some (y186.set ((ji23) : Int).toNat (⟨(rd_T31 y186 (ji23)).f0, (rd_T31 y186 (ji23)).f1, wrap64 (((rd_T31 y186 (ji23)).f2) + (Go.bits .and .i64 a4 3))⟩ : S31) : List (S31))).bind fun y188 => ((some (y188.set ((ji23) : Int).toNat (⟨(rd_T31 y188 (ji23)).f0, mn (wrap64 (((rd_T31 y188 (ji23)).f1) + (Go.bits .and .i64 a3 3))) ((rd_T31 y188 (ji23)).f2), (rd_T31 y188 (ji23)).f2⟩ : S31) : List (S31))).bind fun y191 => ((demand_Fits.f kj8 y179).bind fun t192 => (if t192 = true then ((hortatorref7_Load.f ((rd_T31 y191 (ji23)).f0) ((rd_T31 y191 (ji23)).f1) ((rd_T31 y191 (ji23)).f2)).bind fun t194 => (if t194 = true then ((demand_Fits.f kj8 y191).bind fun t195 => (some t195)) else (some true))) else (none))))) = some r := by (have H2_ := (Option.bind_some _ _).symm.trans H; rw [hy186]; with_reducible exact H2_)
             have Ny186 := Aside0.mk hy186
             clear hy186
             obtain ⟨y188, hy188⟩ : ∃ y_ : List (S31), y_ = (y186.set ((ji23) : Int).toNat (⟨(rd_T31 y186 (ji23)).f0, (rd_T31 y186 (ji23)).f1, wrap64 (((rd_T31 y186 (ji23)).f2) + (Go.bits .and .i64 a4 3))⟩ : S31)) := ⟨_, rfl⟩
             replace H : ((some (y188.set ((ji23) : Int).toNat (⟨(rd_T31 y188 (ji23)).f0, mn (wrap64 (((rd_T31 y188 (ji23)).f1) + (Go.bits .and .i64 a3 3))) ((rd_T31 y188 (ji23)).f2), (rd_T31 y188 (ji23)).f2⟩ : S31) : List (S31))).bind fun y191 => ((demand_Fits.f kj8 y179).bind fun t192 => (if t192 = true then ((hortatorref7_Load.f ((rd_T31 y191 (ji23)).f0) ((rd_T31 y191 (ji23)).f1) ((rd_T31 y191 (ji23)).f2)).bind fun t194 => (if t194 = true then ((demand_Fits.f kj8 y191).bind fun t195 => (some t195)) else (some true))) else (none)))) = some r := by (have H2_ := (Option.bind_some _ _).symm.trans H; rw [hy188]; with_reducible exact H2_)
             have Ny188 := Aside0.mk hy188
             clear hy188
             obtain ⟨ji35, hji35⟩ : ∃ j_ : Int, (mn (wrap64 (((rd_T31 y188 (ji23)).f1) + (Go.bits .and .i64 a3 3))) ((rd_T31 y188 (ji23)).f2)) = j_ := ⟨_, rfl⟩
             replace H : ((some (y188.set ((ji23) : Int).toNat (⟨(rd_T31 y188 (ji23)).f0, ji35, (rd_T31 y188 (ji23)).f2⟩ : S31) : List (S31))).bind fun y191 => ((demand_Fits.f kj8 y179).bind fun t192 => (if t192 = true then ((hortatorref7_Load.f ((rd_T31 y191 (ji23)).f0) ((rd_T31 y191 (ji23)).f1) ((rd_T31 y191 (ji23)).f2)).bind fun t194 => (if t194 = true then ((demand_Fits.f kj8 y191).bind fun t195 => (some t195)) else (some true))) else (none)))) = some r := by (rw [hji35] at H; exact H)
             (try rw [hji35] at A31)
             have hji35_ : (if ((rd_T31 y188 (ji23)).f2) < (wrap64 (((rd_T31 y188 (ji23)).f1) + (Go.bits .and .i64 a3 3))) then ((rd_T31 y188 (ji23)).f2) else (wrap64 (((rd_T31 y188 (ji23)).f1) + (Go.bits .and .i64 a3 3)))) = ji35 := hji35
             obtain ⟨y191, hy191⟩ : ∃ y_ : List (S31), y_ = (y188.set ((ji23) : Int).toNat (⟨(rd_T31 y188 (ji23)).f0, ji35, (rd_T31 y188 (ji23)).f2⟩ : S31)) := ⟨_, rfl⟩
             replace H : ((demand_Fits.f kj8 y179).bind fun t192 => (if t192 = true then ((hortatorref7_Load.f ((rd_T31 y191 (ji23)).f0) ((rd_T31 y191 (ji23)).f1) ((rd_T31 y191 (ji23)).f2)).bind fun t194 => (if t194 = true then ((demand_Fits.f kj8 y191).bind fun t195 => (some t195)) else (some true))) else (none))) = some r := by (have H2_ := (Option.bind_some _ _).symm.trans H; rw [hy191]; with_reducible exact H2_)
             have Ny191 := Aside0.mk hy191
             clear hy191
             replace H := Option.bind_eq_some_iff.mp H
             obtain ⟨t192, A370, H⟩ := H
             have A37 := Aside0.mk A370
             clear A370
             by_cases c38 : t192 = true
             ·subst c38
              have H1 : ((hortatorref7_Load.f ((rd_T31 y191 (ji23)).f0) ((rd_T31 y191 (ji23)).f1) ((rd_T31 y191 (ji23)).f2)).bind fun t194 => (if t194 = true then ((demand_Fits.f kj8 y191).bind fun t195 => (some t195)) else (some true))) = some r := by rw [if_pos rfl] at H; exact H
              clear H
              have H := H1
              clear H1
              replace H := Option.bind_eq_some_iff.mp H
              obtain ⟨t194, A390, H⟩ := H
              have A39 := Aside0.mk A390
              clear A390
              by_cases c40 : t194 = true
              ·subst c40
               have H1 : ((demand_Fits.f kj8 y191).bind fun t195 => (some t195)) = some r := by rw [if_pos rfl] at H; exact H
               clear H
               have H := H1
               clear H1
               replace H := Option.bind_eq_some_iff.mp H
               obtain ⟨t195, A410, H⟩ := H
               have A41 := Aside0.mk A410
               clear A410
               obtain rfl := Option.some.inj H
               obtain ⟨Ao42, co42, eo42⟩ := Kd.R_slice HO_0.out
               subst eo42
               try go_wp2
               have n0_ := Aside0.mk (Kd.R_drew HO_0.out)
               have n1_ := Aside0.mk (below_drew1 HB.out)
               clear HO_0
               clear HB
               have HO_0 := n0_
               have HB := n1_
               clear n0_ n1_
               have q44 : ((ji23) : Int) ≤ ((t162.length : Int) : Int) := of_decide_eq_true (by (with_reducible assumption))
               obtain ⟨i044, hi044, _, hsz44, _⟩ := info_parts info31
               have hroom44 : t162.length ≤ co42 := (Kd.R_reads' HO_0.out).2.1
               have hC44 : Kd.F k31 _ _ Ao42 t162.length t162 := (Kd.V_at (base := w.heap.size) (Kd.R_V HO_0.out)).2.2
               have hcut44 := cut_to (P := Tryz.prog) 22 31 .i64 Tryz.underlying22 hi044 Ao42 t162.length co42 (ji23) (of_decide_eq_true (by (with_reducible assumption))) q44 hroom44
               have hr44 := Kd.F_imp hC44 (fun _ hC_ => Kd.C_take (m := ((ji23) : Int).toNat) hC_ (by omega))
               have hy44 : y166.length = ((ji23) : Int).toNat := (by rw [Ny166.out, List.length_take]; omega)
               rw [← Ny166.out] at hr44
               rw [← hy44] at hcut44
               have HO170 := Aside0.mk (show Kd.V k31 31 _ w.heap.size _ (.slice Ao42 y166.length co42) y166 from Kd.V_mk (by omega) hr44)
               have HC170 := Aside0.mk (show y166.length ≤ co42 from by omega)
               clear hr44 hC44 hroom44 hi044 hsz44
               have KY44 := Aside0.mk hy44
               clear hy44
               replace q44 := eq_true q44
               have q45 : ((ji27) : Int) ≤ ((t162.length : Int) : Int) := of_decide_eq_true (by (with_reducible assumption))
               obtain ⟨i045, hi045, _, hsz45, _⟩ := info_parts info31
               have hroom45 : t162.length ≤ co42 := (Kd.R_reads' HO_0.out).2.1
               have hC45 : Kd.F k31 _ _ Ao42 t162.length t162 := (Kd.V_at (base := w.heap.size) (Kd.R_V HO_0.out)).2.2
               have q045 : (0 : Int) ≤ ((ji27) : Int) := of_decide_eq_true (by (with_reducible assumption))
               have hcut45 := cut_from (P := Tryz.prog) 22 31 .i64 Tryz.underlying22 hi045 3 hsz45 Ao42 t162.length co42 (ji27) q045 q45
               have hr45 := Kd.F_cut (m := ((ji27) : Int).toNat) (c := co42) hC45 (by omega) hroom45
               obtain ⟨A45, hA45⟩ : ∃ A1, A1 = (if co42 = ((ji27) : Int).toNat then Ao42 else (Ao42 : Option Addr).map (·.add (((ji27) : Int).toNat * 3))) := ⟨_, rfl⟩
               obtain ⟨c45, hc45⟩ : ∃ c1, c1 = co42 - ((ji27) : Int).toNat := ⟨_, rfl⟩
               have hy45 : y174.length = t162.length - ((ji27) : Int).toNat := (by rw [Ny174.out, List.length_drop] <;> omega)
               rw [show (t162).drop ((ji27) : Int).toNat = y174 from Ny174.out.symm] at hr45
               replace hr45 : Kd.F k31 _ _ A45 y174.length y174 := (by rw [hA45]; exact hr45)
               rw [← hy45, ← hA45, ← hc45] at hcut45
               have HO178 := Aside0.mk (show Kd.V k31 31 _ w.heap.size _ (.slice A45 y174.length c45) y174 from Kd.V_mk (by rw [hy45, hc45]; exact Nat.sub_le_sub_right hroom45 _) hr45)
               have HC178 := Aside0.mk (show y174.length ≤ c45 from by rw [hy45, hc45]; exact Nat.sub_le_sub_right hroom45 _)
               clear hr45 hC45 hroom45 hi045 hsz45 hc45
               have KY45 := Aside0.mk hy45
               have KA45 := Aside0.mk hA45
               clear hy45 hA45
               replace q45 := eq_true q45
               refine start_ (n := 10) (S := fun w' => True) (ds := []) #[false, false, false, false, false, false, false, false, false, false] (by kernel_rfl) rfl rfl trivial (fun hHeld => ?_); refine with_tabW hortatorlaw9_DemandLess.tab8 hortatorlaw9_DemandLess.bits8 (fun HT_ HW_ => ?_)
               generalize wc.drew = w43 at HO_0 HB HO170 HO178 hHeld ⊢
               refine pure_ (i := 0) (N := some 36) (v := ?_) (a' := ?_) #[true, false, false, false, false, false, false, false, false, false] rfl rfl (any_of HT_.out (by kernel_rfl)) (fun _ _ _ h => h) (Or.inl ⟨by rfl, ?_⟩) ?_ ?_
               rotate_left
               ·intro w'
                go_simp
                with_reducible rfl
               rotate_left
               ·simp only [Act.put, List.setIfInBounds_toArray, List.set_cons_zero, List.set_cons_succ, i64_w, i32_w]
                rfl
               refine pure_ (i := 1) (N := some 37) (v := ?_) (a' := ?_) #[true, true, false, false, false, false, false, false, false, false] rfl rfl (any_of HT_.out (by kernel_rfl)) (fun _ _ _ h => h) (Or.inl ⟨by rfl, ?_⟩) ?_ ?_
               rotate_left
               ·intro w'
                go_simp
                with_reducible rfl
               rotate_left
               ·simp only [Act.put, List.setIfInBounds_toArray, List.set_cons_zero, List.set_cons_succ, i64_w, i32_w]
                rfl
               refine pure_ (i := 2) (N := some 38) (v := ?_) (a' := ?_) #[true, true, true, false, false, false, false, false, false, false] rfl rfl (any_of HT_.out (by kernel_rfl)) (fun _ _ _ h => h) (Or.inl ⟨by rfl, ?_⟩) ?_ ?_
               rotate_left
               ·intro w'
                go_simp
                with_reducible rfl
               rotate_left
               ·simp only [Act.put, List.setIfInBounds_toArray, List.set_cons_zero, List.set_cons_succ, i64_w, i32_w]
                rfl
               refine pure_ (i := 4) (N := some 40) (v := ?_) (a' := ?_) #[true, true, true, false, true, false, false, false, false, false] rfl rfl (any_of HT_.out (by kernel_rfl)) (fun _ _ _ h => h) (Or.inl ⟨by rfl, ?_⟩) ?_ ?_
               rotate_left
               ·intro w'
                go_simp
                with_reducible rfl
               rotate_left
               ·simp only [Act.put, List.setIfInBounds_toArray, List.set_cons_zero, List.set_cons_succ, i64_w, i32_w]
                rfl
               refine pure_ (i := 5) (N := some 41) (v := ?_) (a' := ?_) #[true, true, true, false, true, true, false, false, false, false] rfl rfl (any_of HT_.out (by kernel_rfl)) (fun _ _ _ h => h) (Or.inl ⟨by rfl, ?_⟩) ?_ ?_
               rotate_left
               ·intro w'
                go_simp
                with_reducible rfl
               rotate_left
               ·simp only [Act.put, List.setIfInBounds_toArray, List.set_cons_zero, List.set_cons_succ, i64_w, i32_w]
                rfl
               refine pure_ (i := 6) (N := some 42) (v := ?_) (a' := ?_) #[true, true, true, false, true, true, true, false, false, false] rfl rfl (any_of HT_.out (by kernel_rfl)) (fun _ _ _ h => h) (Or.inl ⟨by rfl, ?_⟩) ?_ ?_
               rotate_left
               ·intro w'
                go_simp
                with_reducible rfl
               rotate_left
               ·simp only [Act.put, List.setIfInBounds_toArray, List.set_cons_zero, List.set_cons_succ, i64_w, i32_w]
                rfl
               refine pure_ (i := 7) (N := some 43) (v := ?_) (a' := ?_) #[true, true, true, false, true, true, true, true, false, false] rfl rfl (any_of HT_.out (by kernel_rfl)) (fun _ _ _ h => h) (Or.inl ⟨by rfl, ?_⟩) ?_ ?_
               rotate_left
               ·intro w'
                go_simp
                with_reducible rfl
               rotate_left
               ·simp only [Act.put, List.setIfInBounds_toArray, List.set_cons_zero, List.set_cons_succ, i64_w, i32_w]
                rfl
               refine one_ (i := 3) (N := some 39) #[true, true, true, true, true, true, true, true, false, false] rfl rfl (one_of HT_.out (by kernel_rfl)) (by decide) (fun K hK => ?_)
               refine Kd.R_append_rows_step k31 (w0 := w) w.heap.size (by rfl) (.const (.slice none 0 0)) (.tmp 38) 22 31 (.agg #[(.int .i64 0), (.int .i64 0), (.int .i64 0)]) 24 rfl Tryz.underlying22 info31 rfl (by decide) (by omega) (.slice none 0 0) ([] : List (S31)) y166 _ _ _ (fun k_ => some k_ ≠ (.slice Ao42 t162.length co42 : Value).ownBlock) (fun _ => False) rfl rfl ?aO ?aR (fun _ _ h => h) (fun _ h => h.elim) ?aF ?aB ?aS ?aL ?_
               (case aR => repeat ((exact (Kd.V_reads' HO170.out).2.2)))
               (case aB => exact (by repeat ((with_reducible (exact HB.out)))))
               (case aF => exact (fun k_ hk => Kd.fresh' (Kd.R_lt (by exact HO_0.out)) k_ hk))
               (case aO => exact ((Kd.R_nil _ _ _ _ (fun k_ => some k_ ≠ (.slice Ao42 t162.length co42 : Value).ownBlock))))
               (case aS => exact (below_size (by repeat ((with_reducible (exact HB.out))))))
               (case aL => have := LMc26.out; omega)
               intro v172 w46 ho hb hg hat
               rw [← Ny171.out] at ho
               have n0_ := Aside0.mk (Kd.R_after (Kd.R_apart_nil (by exact HO_0.out)) hg hat)
               have n1_ := Aside0.mk (Kd.V_afterv (Kd.V_apart_nil (by exact HO170.out)) hg hat)
               have n2_ := Aside0.mk (Kd.V_afterv (Kd.V_apart_nil (by exact HO178.out)) hg hat)
               have n3_ := Aside0.mk (hb)
               have n4_ := Aside0.mk (ho)
               clear HO_0
               clear HO170
               clear HO178
               clear HB
               have HO_0 := n0_
               have HO170 := n1_
               have HO178 := n2_
               have HB := n3_
               have HO173 := n4_
               clear n0_ n1_ n2_ n3_ n4_
               clear ho hb hg hat
               refine hK.out _ _ trivial (fun hHeld => ?_)
               clear hK K
               refine norm_ (a' := ?_) ?_ ?_
               rotate_left
               ·show Act.put _ (some 39) _ = _
                simp only [Act.put, List.setIfInBounds_toArray, List.set_cons_zero, List.set_cons_succ, i64_w, i32_w]
                rfl
               refine one_ (i := 8) (N := some 44) #[true, true, true, true, true, true, true, true, true, false] rfl rfl (one_of HT_.out (by kernel_rfl)) (by decide) (fun K hK => ?_)
               refine Kd.R_append_rows_step k31 (w0 := w) w.heap.size (by rfl) (.tmp 39) (.tmp 43) 22 31 (.agg #[(.int .i64 0), (.int .i64 0), (.int .i64 0)]) 24 rfl Tryz.underlying22 info31 rfl (by decide) (by omega) v172 y171 y174 _ _ _ (fun k_ => some k_ ≠ (.slice Ao42 t162.length co42 : Value).ownBlock) (fun _ => False) rfl rfl ?aO ?aR (fun _ _ h => h) (fun _ h => h.elim) ?aF ?aB ?aS ?aL ?_
               (case aR => repeat ((exact (Kd.V_reads' HO178.out).2.2)))
               (case aB => exact (by repeat ((with_reducible (exact HB.out)))))
               (case aF => exact (fun k_ hk => Kd.fresh' (Kd.R_lt (by exact HO_0.out)) k_ hk))
               (case aO => exact (by exact HO173.out))
               (case aS => exact (below_size (by repeat ((with_reducible (exact HB.out))))))
               (case aL => have := LMc30.out; omega)
               intro v180 w47 ho hb hg hat
               rw [← Ny179.out] at ho
               have n0_ := Aside0.mk (Kd.R_after (ok := (fun _ => True)) (by exact HO_0.out) hg hat)
               have n1_ := Aside0.mk (Kd.V_afterv (ok := (fun _ => True)) (by exact HO170.out) hg hat)
               have n2_ := Aside0.mk (Kd.V_afterv (ok := (fun _ => True)) (by exact HO178.out) hg hat)
               have n3_ := Aside0.mk (hb)
               have n4_ := Aside0.mk (ho)
               clear HO_0
               clear HO170
               clear HO178
               clear HB
               clear HO173
               have HO_0 := n0_
               have HO170 := n1_
               have HO178 := n2_
               have HB := n3_
               have HO181 := n4_
               clear n0_ n1_ n2_ n3_ n4_
               clear ho hb hg hat
               refine hK.out _ _ trivial (fun hHeld => ?_)
               clear hK K
               refine norm_ (a' := ?_) ?_ ?_
               rotate_left
               ·show Act.put _ (some 44) _ = _
                simp only [Act.put, List.setIfInBounds_toArray, List.set_cons_zero, List.set_cons_succ, i64_w, i32_w]
                rfl
               refine pure_ (i := 9) (N := some 13) (v := ?_) (a' := ?_) #[true, true, true, true, true, true, true, true, true, true] rfl rfl (any_of HT_.out (by kernel_rfl)) (fun _ _ _ h => h) (Or.inl ⟨by rfl, ?_⟩) ?_ ?_
               rotate_left
               ·intro w'
                go_simp
                with_reducible rfl
               rotate_left
               ·simp only [Act.put, List.setIfInBounds_toArray, List.set_cons_zero, List.set_cons_succ, i64_w, i32_w]
                rfl
               refine done_ (done_of HT_.out (by kernel_rfl)) ?_
               try go_wp2_with (first | ((with_reducible refine gate_callee (f := 24) rfl ?_); refine goesL_ (some 46) rfl rfl Tryz.func24 (by kernel_rfl) rfl #[.slice Ao42 t162.length co42] rfl (by (try simp only [List.map_toArray, List.map_cons, List.map_nil]); (rfl)) ?_; (with_reducible refine (hortatorlaw9_Loads.calls _ _ t162 t182 _ ?side1 ?side2 A31.out).mono ?_); (case side1 => repeat ((exact (Kd.R_reads' HO_0.out).2.2))); (case side2 => exact (Kd.R_reads' HO_0.out).2.1); rintro e w48 ⟨v183, rfl, ho0, hb⟩; refine ⟨_, rfl, ?_⟩; have n0_ := Aside0.mk (Kd.R_elder' (by exact HO_0.out) (Kd.R_base ho0) hb); have n1_ := Aside0.mk (Kd.V_elder' (by exact HO170.out) (Kd.R_base ho0) hb); have n2_ := Aside0.mk (Kd.V_elder' (by exact HO178.out) (Kd.R_base ho0) hb); have n3_ := Aside0.mk (Kd.R_elder' (by exact HO181.out) (Kd.R_base ho0) hb); have n4_ := Aside0.mk (Kd.R_lower (Kd.R_new' (Kd.R_new' ho0 (Kd.R_lt (by exact HO_0.out))) (Kd.R_lt (by exact HO181.out))) (below_size (by repeat ((with_reducible (exact HB.out)))))); have n5_ := Aside0.mk (below_step (by repeat ((with_reducible (exact HB.out)))) hb); clear HO_0; clear HO170; clear HO178; clear HO181; clear HB; have HO_0 := n0_; have HO170 := n1_; have HO178 := n2_; have HO181 := n3_; have HO184 := n4_; have HB := n5_; clear n0_ n1_ n2_ n3_ n4_ n5_; (try clear hb); (try clear hb2); (try clear hk); (try clear hi); (try clear ho0); obtain ⟨Ao49, co49, eo49⟩ := Kd.R_slice HO184.out; subst eo49; have p185 : 0 ≤ ((ji23) : Int) := of_decide_eq_true (by (with_reducible assumption)); have q185 : (ji23) < (t182.length : Int) := of_decide_eq_true (by (with_reducible assumption)); obtain ⟨ad185, e185, hx185_0, hx185_1, hx185_2⟩ := at_T31 (Kd.R_reads' HO184.out).2.2 (ji23) p185 q185; cases e185; replace p185 := eq_true p185; replace q185 := eq_true q185; have p33 : 0 ≤ ((ji23) : Int) := of_decide_eq_true (by (with_reducible assumption)); have q33 : ((ji23) : Int) < ((t182.length : Int) : Int) := of_decide_eq_true (by (with_reducible assumption)); obtain ⟨go33, co33, eo33, gb33, gl33, cl33, HG33⟩ := Kd.R_form HO184.out (by omega); ((cases eo33)); have GB33 := Aside0.mk gb33; have GG33 := Aside0.mk HG33; clear gb33 gl33 HG33; ((skip)); ((skip)); ((skip)); obtain ⟨ce33, hcl33, hM33, hcc33, hfr33⟩ := Kd.R_elem HO184.out z31 ((ji23) : Int) p33 q33; obtain rfl := k31_openM hM33; have hx33_0 : w48.cell? ⟨go33, ((ji23) : Int).toNat * 3, none⟩ = some (.int .i64 ((rd_T31 t182 (ji23)).f0)) := hcc33 0 _ rfl; have hx33_1 : w48.cell? ⟨go33, ((ji23) : Int).toNat * 3 + 1, none⟩ = some (.int .i64 ((rd_T31 t182 (ji23)).f1)) := hcc33 1 _ rfl; have hx33_2 : w48.cell? ⟨go33, ((ji23) : Int).toNat * 3 + 2, none⟩ = some (.int .i64 ((rd_T31 t182 (ji23)).f2)) := hcc33 2 _ rfl; have hf33_0 : w48.frozen? ⟨go33, ((ji23) : Int).toNat * 3, none⟩ = false := hfr33 0; have hf33_1 : w48.frozen? ⟨go33, ((ji23) : Int).toNat * 3 + 1, none⟩ = false := hfr33 1; have hf33_2 : w48.frozen? ⟨go33, ((ji23) : Int).toNat * 3 + 2, none⟩ = false := hfr33 2; clear hcl33 hcc33 hfr33 hM33; replace p33 := eq_true p33; replace q33 := eq_true q33; have n_ := Aside0.mk (Kd.R_mono (ok' := (fun k_ => some k_ ≠ (.slice Ao42 t162.length co42 : Value).ownBlock ∧ some k_ ≠ (v180 : Value).ownBlock)) HO184.out (fun k_ hk => ⟨hk.1.2, hk.2⟩)); clear HO184; have HO184 := n_; clear n_; have HX50 := Aside0.mk (show Kd.R k31 31 w48 w.heap.size (fun k_ => some k_ ≠ (.slice Ao42 t162.length co42 : Value).ownBlock ∧ some k_ ≠ (v180 : Value).ownBlock) (.slice (some ⟨go33, 0, none⟩) t182.length co49) t182 from (by exact HO184.out)); obtain ⟨ce50, hcl50, hM50, hcc50, hfr50⟩ := Kd.R_elem HX50.out z31 ((ji23) : Int) (of_decide_eq_true (by (with_reducible assumption))) (by have h_ : ((ji23) : Int) < ((t182.length : Int) : Int) := of_decide_eq_true (by (with_reducible assumption)); (exact h_)); obtain rfl := k31_openM hM50; have HP50 := Kd.R_seg HX50.out ((ji23) : Int) (of_decide_eq_true (by (with_reducible assumption))) (by have h_ : ((ji23) : Int) < ((t182.length : Int) : Int) := of_decide_eq_true (by (with_reducible assumption)); (exact h_)) (seg := [.int .i64 (wrap64 (((rd_T31 t182 (ji23)).f0) - (Go.bits .and .i64 a2 3)))]) (j := 0) hcl50 hcc50 (show 1 ≤ 3 from by decide) (x' := (⟨wrap64 (((rd_T31 t182 (ji23)).f0) - (Go.bits .and .i64 a2 3)), (rd_T31 t182 (ji23)).f1, (rd_T31 t182 (ji23)).f2⟩ : S31)) (k31_mkM _ _ _ (⟨wrap64 (((rd_T31 t182 (ji23)).f0) - (Go.bits .and .i64 a2 3)), (rd_T31 t182 (ji23)).f1, (rd_T31 t182 (ji23)).f2⟩ : S31) ) (fun _ hk => hk); have hx50_0 := hcc50 0 _ rfl; (try simp only [show (k31).sz = 3 from rfl, Nat.mul_one, Nat.add_zero] at hx50_0); have hf50_0 := hfr50 0; (try simp only [show (k31).sz = 3 from rfl, Nat.mul_one, Nat.add_zero] at hf50_0); clear hcl50 hcc50 hfr50 hM50) | ((with_reducible refine gate_store (t := 2) (p := 56) rfl ?_); refine store_event (t := 2) (p := 56) (v := ?vo_w51) (w1 := (w48.setCell ⟨go33, ((ji23) : Int).toNat * 3, none⟩ (.int .i64 (wrap64 (((rd_T31 t182 (ji23)).f0) - (Go.bits .and .i64 a2 3)))))) ?hg ?ho ?hn ?hr ?_; (case ho => rfl); (case hg => rfl); (case hn => rfl); (case hr => (go_simp; done)); intro w51 hw; have hg : w48.grownBy w51 (some go33) := (by rw [hw]; exact HP50.2); have hp_ : Kd.R k31 31 w51 w.heap.size (fun k_ => some k_ ≠ (.slice Ao42 t162.length co42 : Value).ownBlock ∧ some k_ ≠ (v180 : Value).ownBlock) (.slice (some ⟨go33, 0, none⟩) t182.length co49) y186 := (by rw [hw, Ny186.out]; exact HP50.1); clear HP50; have n0_ := Aside0.mk (Kd.R_after (v := (.slice (some ⟨go33, 0, none⟩) t182.length co49)) (v1 := (.slice (some ⟨go33, 0, none⟩) t182.length co49)) (ok := (fun k_ => some k_ ≠ (v180 : Value).ownBlock)) (by exact Kd.R_mono HO_0.out (fun _ hk => ⟨hk.1.2, hk.2⟩)) hg (.inl rfl)); have n1_ := Aside0.mk (Kd.V_afterv (v := (.slice (some ⟨go33, 0, none⟩) t182.length co49)) (v1 := (.slice (some ⟨go33, 0, none⟩) t182.length co49)) (ok := (fun k_ => some k_ ≠ (v180 : Value).ownBlock)) (by exact Kd.V_mono HO170.out (fun _ hk => ⟨hk.1.2, hk.2⟩)) hg (.inl rfl)); have n2_ := Aside0.mk (Kd.V_afterv (v := (.slice (some ⟨go33, 0, none⟩) t182.length co49)) (v1 := (.slice (some ⟨go33, 0, none⟩) t182.length co49)) (ok := (fun k_ => some k_ ≠ (v180 : Value).ownBlock)) (by exact Kd.V_mono HO178.out (fun _ hk => ⟨hk.1.2, hk.2⟩)) hg (.inl rfl)); have n3_ := Aside0.mk (Kd.R_after (v := (.slice (some ⟨go33, 0, none⟩) t182.length co49)) (v1 := (.slice (some ⟨go33, 0, none⟩) t182.length co49)) (ok := (fun k_ => some k_ ≠ (.slice Ao42 t162.length co42 : Value).ownBlock)) (by exact HO181.out) hg (.inl rfl)); have n4_ := Aside0.mk (hp_); have n5_ := Aside0.mk ((by rw [hw]; exact below_set (HB.out) GB33.out : Below w.heap.size w w51)); clear HO_0; clear HO170; clear HO178; clear HO181; clear HO184; clear HB; have HO_0 := n0_; have HO170 := n1_; have HO178 := n2_; have HO181 := n3_; have HO184 := n4_; have HB := n5_; clear n0_ n1_ n2_ n3_ n4_ n5_; clear hg hw hp_; have p187 : 0 ≤ ((ji23) : Int) := of_decide_eq_true (by (with_reducible assumption)); have q187 : (ji23) < (y186.length : Int) := (by have h_ : ((ji23) : Int) < ((t182.length : Int) : Int) := of_decide_eq_true (by (with_reducible assumption)); (have e_ := (Kd.R_reads' HO184.out).1; omega)); have ql187 : (((ji23) : Int) < ((t182.length : Int) : Int)) = True := eq_true (of_decide_eq_true (by (with_reducible assumption))); obtain ⟨ad187, e187, hx187_0, hx187_1, hx187_2⟩ := at_T31 (Kd.R_reads' HO184.out).2.2 (ji23) p187 q187; obtain rfl : (⟨go33, 0, none⟩ : Addr) = ad187 := (by injection e187); ((simp only [add_at] at hx187_0)); ((simp only [add_at] at hx187_1)); ((simp only [add_at] at hx187_2)); replace p187 := eq_true p187; replace q187 := eq_true q187; have p34 : 0 ≤ ((ji23) : Int) := of_decide_eq_true (by (with_reducible assumption)); have q34 : ((ji23) : Int) < ((t182.length : Int) : Int) := of_decide_eq_true (by (with_reducible assumption)); obtain ⟨ce34, hcl34, hM34, hcc34, hfr34⟩ := Kd.R_elem HO184.out z31 ((ji23) : Int) p34 q34; obtain rfl := k31_openM hM34; have hx34_0 : w51.cell? ⟨go33, ((ji23) : Int).toNat * 3, none⟩ = some (.int .i64 ((rd_T31 y186 (ji23)).f0)) := hcc34 0 _ rfl; have hx34_1 : w51.cell? ⟨go33, ((ji23) : Int).toNat * 3 + 1, none⟩ = some (.int .i64 ((rd_T31 y186 (ji23)).f1)) := hcc34 1 _ rfl; have hx34_2 : w51.cell? ⟨go33, ((ji23) : Int).toNat * 3 + 2, none⟩ = some (.int .i64 ((rd_T31 y186 (ji23)).f2)) := hcc34 2 _ rfl; have hf34_0 : w51.frozen? ⟨go33, ((ji23) : Int).toNat * 3, none⟩ = false := hfr34 0; have hf34_1 : w51.frozen? ⟨go33, ((ji23) : Int).toNat * 3 + 1, none⟩ = false := hfr34 1; have hf34_2 : w51.frozen? ⟨go33, ((ji23) : Int).toNat * 3 + 2, none⟩ = false := hfr34 2; clear hcl34 hcc34 hfr34 hM34; replace p34 := eq_true p34; replace q34 := eq_true q34; have HX52 := Aside0.mk (show Kd.R k31 31 w51 w.heap.size (fun k_ => some k_ ≠ (.slice Ao42 t162.length co42 : Value).ownBlock ∧ some k_ ≠ (v180 : Value).ownBlock) (.slice (some ⟨go33, 0, none⟩) t182.length co49) y186 from (by exact HO184.out)); obtain ⟨ce52, hcl52, hM52, hcc52, hfr52⟩ := Kd.R_elem HX52.out z31 ((ji23) : Int) (of_decide_eq_true (by (with_reducible assumption))) (by have h_ : ((ji23) : Int) < ((t182.length : Int) : Int) := of_decide_eq_true (by (with_reducible assumption)); (exact h_)); obtain rfl := k31_openM hM52; have HP52 := Kd.R_seg HX52.out ((ji23) : Int) (of_decide_eq_true (by (with_reducible assumption))) (by have h_ : ((ji23) : Int) < ((t182.length : Int) : Int) := of_decide_eq_true (by (with_reducible assumption)); (exact h_)) (seg := [.int .i64 (wrap64 (((rd_T31 y186 (ji23)).f2) + (Go.bits .and .i64 a4 3)))]) (j := 2) hcl52 hcc52 (show 3 ≤ 3 from by decide) (x' := (⟨(rd_T31 y186 (ji23)).f0, (rd_T31 y186 (ji23)).f1, wrap64 (((rd_T31 y186 (ji23)).f2) + (Go.bits .and .i64 a4 3))⟩ : S31)) (k31_mkM _ _ _ (⟨(rd_T31 y186 (ji23)).f0, (rd_T31 y186 (ji23)).f1, wrap64 (((rd_T31 y186 (ji23)).f2) + (Go.bits .and .i64 a4 3))⟩ : S31) ) (fun _ hk => hk); have hx52_2 := hcc52 2 _ rfl; (try simp only [show (k31).sz = 3 from rfl, Nat.mul_one, Nat.add_zero] at hx52_2); have hf52_2 := hfr52 2; (try simp only [show (k31).sz = 3 from rfl, Nat.mul_one, Nat.add_zero] at hf52_2); clear hcl52 hcc52 hfr52 hM52) | ((with_reducible refine gate_store (t := 2) (p := 66) rfl ?_); refine store_event (t := 2) (p := 66) (v := ?vo_w53) (w1 := (w51.setCell ⟨go33, ((ji23) : Int).toNat * 3 + 2, none⟩ (.int .i64 (wrap64 (((rd_T31 y186 (ji23)).f2) + (Go.bits .and .i64 a4 3)))))) ?hg ?ho ?hn ?hr ?_; (case ho => rfl); (case hg => rfl); (case hn => rfl); (case hr => (go_simp; done)); intro w53 hw; have hg : w51.grownBy w53 (some go33) := (by rw [hw]; exact HP52.2); have hp_ : Kd.R k31 31 w53 w.heap.size (fun k_ => some k_ ≠ (.slice Ao42 t162.length co42 : Value).ownBlock ∧ some k_ ≠ (v180 : Value).ownBlock) (.slice (some ⟨go33, 0, none⟩) t182.length co49) y188 := (by rw [hw, Ny188.out]; exact HP52.1); clear HP52; have n0_ := Aside0.mk (Kd.R_after (v := (.slice (some ⟨go33, 0, none⟩) t182.length co49)) (v1 := (.slice (some ⟨go33, 0, none⟩) t182.length co49)) (ok := (fun k_ => some k_ ≠ (v180 : Value).ownBlock)) (by exact HO_0.out) hg (.inl rfl)); have n1_ := Aside0.mk (Kd.V_afterv (v := (.slice (some ⟨go33, 0, none⟩) t182.length co49)) (v1 := (.slice (some ⟨go33, 0, none⟩) t182.length co49)) (ok := (fun k_ => some k_ ≠ (v180 : Value).ownBlock)) (by exact HO170.out) hg (.inl rfl)); have n2_ := Aside0.mk (Kd.V_afterv (v := (.slice (some ⟨go33, 0, none⟩) t182.length co49)) (v1 := (.slice (some ⟨go33, 0, none⟩) t182.length co49)) (ok := (fun k_ => some k_ ≠ (v180 : Value).ownBlock)) (by exact HO178.out) hg (.inl rfl)); have n3_ := Aside0.mk (Kd.R_after (v := (.slice (some ⟨go33, 0, none⟩) t182.length co49)) (v1 := (.slice (some ⟨go33, 0, none⟩) t182.length co49)) (ok := (fun k_ => some k_ ≠ (.slice Ao42 t162.length co42 : Value).ownBlock)) (by exact HO181.out) hg (.inl rfl)); have n4_ := Aside0.mk (hp_); have n5_ := Aside0.mk ((by rw [hw]; exact below_set (HB.out) GB33.out : Below w.heap.size w w53)); clear HO_0; clear HO170; clear HO178; clear HO181; clear HO184; clear HB; have HO_0 := n0_; have HO170 := n1_; have HO178 := n2_; have HO181 := n3_; have HO184 := n4_; have HB := n5_; clear n0_ n1_ n2_ n3_ n4_ n5_; clear hg hw hp_))
               have n0_ := Aside0.mk (Kd.R_drew HO_0.out)
               have n1_ := Aside0.mk (Kd.V_drew HO170.out)
               have n2_ := Aside0.mk (Kd.V_drew HO178.out)
               have n3_ := Aside0.mk (Kd.R_drew HO181.out)
               have n4_ := Aside0.mk (Kd.R_drew HO184.out)
               have n5_ := Aside0.mk (below_drew1 HB.out)
               clear HO_0
               clear HO170
               clear HO178
               clear HO181
               clear HO184
               clear HB
               have HO_0 := n0_
               have HO170 := n1_
               have HO178 := n2_
               have HO181 := n3_
               have HO184 := n4_
               have HB := n5_
               clear n0_ n1_ n2_ n3_ n4_ n5_
               have p189 : 0 ≤ ((ji23) : Int) := of_decide_eq_true (by (with_reducible assumption))
               have q189 : (ji23) < (y188.length : Int) := (by have h_ : ((ji23) : Int) < ((t182.length : Int) : Int) := of_decide_eq_true (by (with_reducible assumption)); (have e_ := (Kd.R_reads' HO184.out).1; omega))
               have ql189 : (((ji23) : Int) < ((t182.length : Int) : Int)) = True := eq_true (of_decide_eq_true (by (with_reducible assumption)))
               obtain ⟨ad189, e189, hx189_0, hx189_1, hx189_2⟩ := at_T31 (Kd.R_reads' HO184.out).2.2 (ji23) p189 q189
               obtain rfl : (⟨go33, 0, none⟩ : Addr) = ad189 := (by injection e189)
               ((simp only [add_at] at hx189_0))
               ((simp only [add_at] at hx189_1))
               ((simp only [add_at] at hx189_2))
               replace p189 := eq_true p189
               replace q189 := eq_true q189
               have p190 : 0 ≤ ((ji23) : Int) := of_decide_eq_true (by (with_reducible assumption))
               have q190 : (ji23) < (y188.length : Int) := (by have h_ : ((ji23) : Int) < ((t182.length : Int) : Int) := of_decide_eq_true (by (with_reducible assumption)); (have e_ := (Kd.R_reads' HO184.out).1; omega))
               have ql190 : (((ji23) : Int) < ((t182.length : Int) : Int)) = True := eq_true (of_decide_eq_true (by (with_reducible assumption)))
               obtain ⟨ad190, e190, hx190_0, hx190_1, hx190_2⟩ := at_T31 (Kd.R_reads' HO184.out).2.2 (ji23) p190 q190
               obtain rfl : (⟨go33, 0, none⟩ : Addr) = ad190 := (by injection e190)
               ((simp only [add_at] at hx190_0))
               ((simp only [add_at] at hx190_1))
               ((simp only [add_at] at hx190_2))
               replace p190 := eq_true p190
               replace q190 := eq_true q190
               have p36 : 0 ≤ ((ji23) : Int) := of_decide_eq_true (by (with_reducible assumption))
               have q36 : ((ji23) : Int) < ((t182.length : Int) : Int) := of_decide_eq_true (by (with_reducible assumption))
               obtain ⟨ce36, hcl36, hM36, hcc36, hfr36⟩ := Kd.R_elem HO184.out z31 ((ji23) : Int) p36 q36
               obtain rfl := k31_openM hM36
               have hx36_0 : World.cell? _ ⟨go33, ((ji23) : Int).toNat * 3, none⟩ = some (.int .i64 ((rd_T31 y188 (ji23)).f0)) := hcc36 0 _ rfl
               have hx36_1 : World.cell? _ ⟨go33, ((ji23) : Int).toNat * 3 + 1, none⟩ = some (.int .i64 ((rd_T31 y188 (ji23)).f1)) := hcc36 1 _ rfl
               have hx36_2 : World.cell? _ ⟨go33, ((ji23) : Int).toNat * 3 + 2, none⟩ = some (.int .i64 ((rd_T31 y188 (ji23)).f2)) := hcc36 2 _ rfl
               have hf36_0 : World.frozen? _ ⟨go33, ((ji23) : Int).toNat * 3, none⟩ = false := hfr36 0
               have hf36_1 : World.frozen? _ ⟨go33, ((ji23) : Int).toNat * 3 + 1, none⟩ = false := hfr36 1
               have hf36_2 : World.frozen? _ ⟨go33, ((ji23) : Int).toNat * 3 + 2, none⟩ = false := hfr36 2
               clear hcl36 hcc36 hfr36 hM36
               replace p36 := eq_true p36
               replace q36 := eq_true q36
               obtain ⟨ce55, hcl55, hM55, hcc55, hfr55⟩ := Kd.R_elem HO184.out z31 ((ji23) : Int) (of_decide_eq_true (by (with_reducible assumption))) (by have h_ : ((ji23) : Int) < ((t182.length : Int) : Int) := of_decide_eq_true (by (with_reducible assumption)); (exact h_))
               obtain rfl := k31_openM hM55
               have HP55 := (Kd.R_seg HO184.out ((ji23) : Int) (of_decide_eq_true (by (with_reducible assumption))) (by have h_ : ((ji23) : Int) < ((t182.length : Int) : Int) := of_decide_eq_true (by (with_reducible assumption)); (exact h_)) (seg := [.int .i64 ji35]) (j := 1) hcl55 hcc55 (show 2 ≤ 3 from by decide) (x' := (⟨(rd_T31 y188 (ji23)).f0, ji35, (rd_T31 y188 (ji23)).f2⟩ : S31)) (k31_mkM _ _ _ (⟨(rd_T31 y188 (ji23)).f0, ji35, (rd_T31 y188 (ji23)).f2⟩ : S31) ) (fun _ hk => hk)).1
               rw [← Ny191.out] at HP55
               have HQ55 := Aside0.mk HP55
               clear hcl55 hcc55 hfr55 hM55 HP55
               try rw [Nat.zero_add] at hx189_0
               try rw [Nat.zero_add] at hx189_1
               try rw [Nat.zero_add] at hx189_2
               try rw [Nat.zero_add] at hx190_0
               try rw [Nat.zero_add] at hx190_1
               try rw [Nat.zero_add] at hx190_2
               refine start_ (n := 19) (S := fun w' => w'.cell? ⟨go33, ((ji23)).toNat * 3, none⟩ = some (.int .i64 ((rd_T31 y188 (ji23)).f0)) ∧ w'.cell? ⟨go33, ((ji23)).toNat * 3 + 1, none⟩ = some (.int .i64 ((rd_T31 y188 (ji23)).f1)) ∧ w'.cell? ⟨go33, ((ji23)).toNat * 3 + 2, none⟩ = some (.int .i64 ((rd_T31 y188 (ji23)).f2)) ∧ w'.cell? ⟨go33, ((ji23)).toNat * 3, none⟩ = some (.int .i64 ((rd_T31 y188 (ji23)).f0)) ∧ w'.cell? ⟨go33, ((ji23)).toNat * 3 + 1, none⟩ = some (.int .i64 ((rd_T31 y188 (ji23)).f1)) ∧ w'.cell? ⟨go33, ((ji23)).toNat * 3 + 2, none⟩ = some (.int .i64 ((rd_T31 y188 (ji23)).f2))) (ds := [18]) #[false, false, false, false, false, false, false, false, false, false, false, false, false, false, false, false, false, false, false] (by kernel_rfl) rfl rfl ⟨hx189_0, hx189_1, hx189_2, hx190_0, hx190_1, hx190_2⟩ (fun hHeld => ?_); refine with_tabW hortatorlaw9_DemandLess.tab12 hortatorlaw9_DemandLess.bits12 (fun HT_ HW_ => ?_)
               generalize w53.drew = w54 at HO_0 HO170 HO178 HO181 HO184 HB HQ55 hf36_0 hf36_1 hf36_2 hx189_0 hx189_1 hx189_2 hx190_0 hx190_1 hx190_2 hx36_0 hx36_1 hx36_2 hHeld ⊢
               refine pure_ (i := 0) (N := some 67) (v := ?_) (a' := ?_) #[true, false, false, false, false, false, false, false, false, false, false, false, false, false, false, false, false, false, false] rfl rfl (any_of HT_.out (by kernel_rfl)) (fun _ _ _ h => h) (Or.inl ⟨by rfl, ?_⟩) ?_ ?_
               rotate_left
               ·intro w'
                go_simp
                with_reducible rfl
               rotate_left
               ·simp only [Act.put, List.setIfInBounds_toArray, List.set_cons_zero, List.set_cons_succ, i64_w, i32_w]
                rfl
               refine pure_ (i := 1) (N := some 68) (v := ?_) (a' := ?_) #[true, true, false, false, false, false, false, false, false, false, false, false, false, false, false, false, false, false, false] rfl rfl (any_of HT_.out (by kernel_rfl)) (fun _ _ _ h => h) (Or.inl ⟨by rfl, ?_⟩) ?_ ?_
               rotate_left
               ·intro w'
                go_simp
                with_reducible rfl
               rotate_left
               ·simp only [Act.put, List.setIfInBounds_toArray, List.set_cons_zero, List.set_cons_succ, i64_w, i32_w]
                rfl
               refine pure_ (i := 2) (N := some 69) (v := ?_) (a' := ?_) #[true, true, true, false, false, false, false, false, false, false, false, false, false, false, false, false, false, false, false] rfl rfl (any_of HT_.out (by kernel_rfl)) (fun _ _ _ h => h) (Or.inl ⟨by rfl, ?_⟩) ?_ ?_
               rotate_left
               ·intro w'
                go_simp
                with_reducible rfl
               rotate_left
               ·simp only [Act.put, List.setIfInBounds_toArray, List.set_cons_zero, List.set_cons_succ, i64_w, i32_w]
                rfl
               refine pure_ (i := 3) (N := some 70) (v := ?_) (a' := ?_) #[true, true, true, true, false, false, false, false, false, false, false, false, false, false, false, false, false, false, false] rfl rfl (any_of HT_.out (by kernel_rfl)) (fun _ _ _ h => h) (Or.inl ⟨by rfl, ?_⟩) ?_ ?_
               rotate_left
               ·intro w'
                go_simp
                with_reducible rfl
               rotate_left
               ·simp only [Act.put, List.setIfInBounds_toArray, List.set_cons_zero, List.set_cons_succ, i64_w, i32_w]
                rfl
               refine pure_ (i := 4) (N := some 71) (v := ?_) (a' := ?_) #[true, true, true, true, true, false, false, false, false, false, false, false, false, false, false, false, false, false, false] rfl rfl (any_of HT_.out (by kernel_rfl)) (fun _ _ _ h => h) (Or.inl ⟨by rfl, ?_⟩) ?_ ?_
               rotate_left
               ·intro w'
                go_simp
                with_reducible rfl
               rotate_left
               ·simp only [Act.put, List.setIfInBounds_toArray, List.set_cons_zero, List.set_cons_succ, i64_w, i32_w]
                rfl
               refine pure_ (i := 5) (N := some 72) (v := ?_) (a' := ?_) #[true, true, true, true, true, true, false, false, false, false, false, false, false, false, false, false, false, false, false] rfl rfl (any_of HT_.out (by kernel_rfl)) (fun _ _ _ h => h) (Or.inl ⟨by rfl, ?_⟩) ?_ ?_
               rotate_left
               ·intro w'
                go_simp
                with_reducible rfl
               rotate_left
               ·simp only [Act.put, List.setIfInBounds_toArray, List.set_cons_zero, List.set_cons_succ, i64_w, i32_w]
                rfl
               refine pure_ (i := 7) (N := some 74) (v := ?_) (a' := ?_) #[true, true, true, true, true, true, false, true, false, false, false, false, false, false, false, false, false, false, false] rfl rfl (any_of HT_.out (by kernel_rfl)) (fun _ _ _ h => h) (Or.inl ⟨by rfl, ?_⟩) ?_ ?_
               rotate_left
               ·intro w'
                go_simp
                with_reducible rfl
               rotate_left
               ·simp only [Act.put, List.setIfInBounds_toArray, List.set_cons_zero, List.set_cons_succ, i64_w, i32_w]
                rfl
               refine pure_ (i := 8) (N := some 75) (v := ?_) (a' := ?_) #[true, true, true, true, true, true, false, true, true, false, false, false, false, false, false, false, false, false, false] rfl rfl (any_of HT_.out (by kernel_rfl)) (fun _ _ _ h => h) (Or.inl ⟨by rfl, ?_⟩) ?_ ?_
               rotate_left
               ·intro w'
                go_simp
                with_reducible rfl
               rotate_left
               ·simp only [Act.put, List.setIfInBounds_toArray, List.set_cons_zero, List.set_cons_succ, i64_w, i32_w]
                rfl
               refine pure_ (i := 10) (N := some 77) (v := ?_) (a' := ?_) #[true, true, true, true, true, true, false, true, true, false, true, false, false, false, false, false, false, false, false] rfl rfl (any_of HT_.out (by kernel_rfl)) (fun _ _ _ h => h) (Or.inl ⟨by rfl, ?_⟩) ?_ ?_
               rotate_left
               ·intro w'
                go_simp
                with_reducible rfl
               rotate_left
               ·simp only [Act.put, List.setIfInBounds_toArray, List.set_cons_zero, List.set_cons_succ, i64_w, i32_w]
                rfl
               refine pure_ (i := 11) (N := some 78) (v := ?_) (a' := ?_) #[true, true, true, true, true, true, false, true, true, false, true, true, false, false, false, false, false, false, false] rfl rfl (any_of HT_.out (by kernel_rfl)) (fun _ _ _ h => h) (Or.inl ⟨by rfl, ?_⟩) ?_ ?_
               rotate_left
               ·intro w'
                go_simp
                with_reducible rfl
               rotate_left
               ·simp only [Act.put, List.setIfInBounds_toArray, List.set_cons_zero, List.set_cons_succ, i64_w, i32_w]
                rfl
               refine pure_ (i := 12) (N := some 79) (v := ?_) (a' := ?_) #[true, true, true, true, true, true, false, true, true, false, true, true, true, false, false, false, false, false, false] rfl rfl (any_of HT_.out (by kernel_rfl)) (fun _ _ _ h => h) (Or.inl ⟨by rfl, ?_⟩) ?_ ?_
               rotate_left
               ·intro w'
                go_simp
                with_reducible rfl
               rotate_left
               ·simp only [Act.put, List.setIfInBounds_toArray, List.set_cons_zero, List.set_cons_succ, i64_w, i32_w]
                rfl
               refine pure_ (i := 13) (N := some 80) (v := ?_) (a' := ?_) #[true, true, true, true, true, true, false, true, true, false, true, true, true, true, false, false, false, false, false] rfl rfl (any_of HT_.out (by kernel_rfl)) (fun _ _ _ h => h) (Or.inl ⟨by rfl, ?_⟩) ?_ ?_
               rotate_left
               ·intro w'
                go_simp
                with_reducible rfl
               rotate_left
               ·simp only [Act.put, List.setIfInBounds_toArray, List.set_cons_zero, List.set_cons_succ, i64_w, i32_w]
                rfl
               refine take_ (i := 6) (N := some 73) (v := ?_) (a' := ?_) #[true, true, true, true, true, true, true, true, true, false, true, true, true, true, false, false, false, false, false] rfl rfl (take_ofW HT_.out HW_.out (by kernel_rfl)) (fun _ _ _ h => h) (Or.inl ⟨by rfl, ?_⟩) hHeld ?_ ?_
               rotate_left
               ·rintro w' ⟨s0, s1, s2, s3, s4, s5⟩
                go_simp
                with_reducible rfl
               rotate_left
               ·simp only [Act.put, List.setIfInBounds_toArray, List.set_cons_zero, List.set_cons_succ, i64_w, i32_w]
                rfl
               refine pure_ (i := 9) (N := some 76) (v := ?_) (a' := ?_) #[true, true, true, true, true, true, true, true, true, true, true, true, true, true, false, false, false, false, false] rfl rfl (any_of HT_.out (by kernel_rfl)) (fun _ _ _ h => h) (Or.inl ⟨by rfl, ?_⟩) ?_ ?_
               rotate_left
               ·intro w'
                go_simp
                with_reducible rfl
               rotate_left
               ·simp only [Act.put, List.setIfInBounds_toArray, List.set_cons_zero, List.set_cons_succ, i64_w, i32_w]
                rfl
               refine take_ (i := 14) (N := some 81) (v := ?_) (a' := ?_) #[true, true, true, true, true, true, true, true, true, true, true, true, true, true, true, false, false, false, false] rfl rfl (take_ofW HT_.out HW_.out (by kernel_rfl)) (fun _ _ _ h => h) (Or.inl ⟨by rfl, ?_⟩) hHeld ?_ ?_
               rotate_left
               ·rintro w' ⟨s0, s1, s2, s3, s4, s5⟩
                go_simp
                with_reducible rfl
               rotate_left
               ·simp only [Act.put, List.setIfInBounds_toArray, List.set_cons_zero, List.set_cons_succ, i64_w, i32_w]
                rfl
               refine pure_ (i := 15) (N := some 82) (v := ?_) (a' := ?_) #[true, true, true, true, true, true, true, true, true, true, true, true, true, true, true, true, false, false, false] rfl rfl (any_of HT_.out (by kernel_rfl)) (fun _ _ _ h => h) (Or.inl ⟨by rfl, ?_⟩) ?_ ?_
               rotate_left
               ·intro w'
                go_simp
                with_reducible rfl
               rotate_left
               ·simp only [Act.put, List.setIfInBounds_toArray, List.set_cons_zero, List.set_cons_succ, i64_w, i32_w]
                rfl
               refine pure_ (i := 16) (N := some 83) (v := ?_) (a' := ?_) #[true, true, true, true, true, true, true, true, true, true, true, true, true, true, true, true, true, false, false] rfl rfl (any_of HT_.out (by kernel_rfl)) (fun _ _ _ h => h) (Or.inl ⟨by rfl, ?_⟩) ?_ ?_
               rotate_left
               ·intro w'
                go_simp
                with_reducible rfl
               rotate_left
               ·simp only [Act.put, List.setIfInBounds_toArray, List.set_cons_zero, List.set_cons_succ, i64_w, i32_w]
                rfl
               refine pure_ (i := 17) (N := some 84) (v := ?_) (a' := ?_) #[true, true, true, true, true, true, true, true, true, true, true, true, true, true, true, true, true, true, false] rfl rfl (any_of HT_.out (by kernel_rfl)) (fun _ _ _ h => h) (Or.inl ⟨by rfl, ?_⟩) ?_ ?_
               rotate_left
               ·intro w'
                go_simp
                with_reducible rfl
               rotate_left
               ·simp only [Act.put, List.setIfInBounds_toArray, List.set_cons_zero, List.set_cons_succ, i64_w, i32_w]
                rfl
               refine last_ (i := 18) (N := none) #[true, true, true, true, true, true, true, true, true, true, true, true, true, true, true, true, true, true, true] rfl rfl (one_of HT_.out (by kernel_rfl)) (by decide) (fun K hK => ?_)
               refine skip_ (w1 := ?_) (by rfl) rfl ?_ ?_
               rotate_left
               ·go_simp
                rfl
               refine hK.out _ _ ?_
               clear hK K
               refine done_ (done_of HT_.out (by kernel_rfl)) ?_
               obtain ⟨Ao56, co56, eo56⟩ := Kd.R_slice HO181.out
               subst eo56
               try go_wp2_with (first | ((with_reducible refine gate_callee (f := 34) rfl ?_); refine goesL_ (some 86) rfl rfl Tryz.func34 (by kernel_rfl) rfl #[.slice Ao56 y179.length co56] rfl (by (try simp only [List.map_toArray, List.map_cons, List.map_nil]); (rfl)) ?_; (with_reducible refine (demand_Fits.calls kj8 _ _ y179 true _ ?side1 ?side2 A37.out).mono ?_); (case side1 => refine (Kd.R_reads' (e := 31) (base := w.heap.size) (ok := fun k_ => (some k_ ≠ (.slice Ao42 t162.length co42 : Value).ownBlock ∧ some k_ ≠ (.slice (some ⟨go33, 0, none⟩) t182.length co49 : Value).ownBlock)) (n := y179.length) (c := co56) ?_).2.2; exact (by exact (Kd.R_mono (Kd.R_far (p := ⟨go33, ((ji23) : Int).toNat * 3 + 1, none⟩) (Kd.R_mono HO181.out (fun k_ hk => (⟨hk, fun e_ => hk.2 (by rw [e_]; rfl)⟩ : _ ∧ k_ ≠ go33))) (fun _ hk => hk.2) (.int .i64 ji35)) (fun _ h_ => h_.1)))); (case side2 => exact (Kd.R_reads' HO181.out).2.1); rintro e w57 ⟨rfl, hb⟩; refine ⟨_, rfl, ?_⟩; have n0_ := Aside0.mk (Kd.R_below (by exact (Kd.R_mono (Kd.R_far (p := ⟨go33, ((ji23) : Int).toNat * 3 + 1, none⟩) (Kd.R_mono HO_0.out (fun k_ hk => (⟨hk, fun e_ => hk.2 (by rw [e_]; rfl)⟩ : _ ∧ k_ ≠ go33))) (fun _ hk => hk.2) (.int .i64 ji35)) (fun _ h_ => h_.1))) hb); have n1_ := Aside0.mk (Kd.V_below (by exact (Kd.V_mono (Kd.V_far (p := ⟨go33, ((ji23) : Int).toNat * 3 + 1, none⟩) (Kd.V_mono HO170.out (fun k_ hk => (⟨hk, fun e_ => hk.2 (by rw [e_]; rfl)⟩ : _ ∧ k_ ≠ go33))) (fun _ hk => hk.2) (.int .i64 ji35)) (fun _ h_ => h_.1))) hb); have n2_ := Aside0.mk (Kd.V_below (by exact (Kd.V_mono (Kd.V_far (p := ⟨go33, ((ji23) : Int).toNat * 3 + 1, none⟩) (Kd.V_mono HO178.out (fun k_ hk => (⟨hk, fun e_ => hk.2 (by rw [e_]; rfl)⟩ : _ ∧ k_ ≠ go33))) (fun _ hk => hk.2) (.int .i64 ji35)) (fun _ h_ => h_.1))) hb); have n3_ := Aside0.mk (Kd.R_below (by exact (Kd.R_mono (Kd.R_far (p := ⟨go33, ((ji23) : Int).toNat * 3 + 1, none⟩) (Kd.R_mono HO181.out (fun k_ hk => (⟨hk, fun e_ => hk.2 (by rw [e_]; rfl)⟩ : _ ∧ k_ ≠ go33))) (fun _ hk => hk.2) (.int .i64 ji35)) (fun _ h_ => h_.1))) hb); have n4_ := Aside0.mk (Kd.R_below (by exact HQ55.out) hb); have n5_ := Aside0.mk (below_step (by repeat ((with_reducible first | exact HB.out | refine below_set ?_ GB33.out))) hb); clear HO_0; clear HO170; clear HO178; clear HO181; clear HO184; clear HB; have HO_0 := n0_; have HO170 := n1_; have HO178 := n2_; have HO181 := n3_; have HO184 := n4_; have HB := n5_; clear n0_ n1_ n2_ n3_ n4_ n5_; (try clear hb); (try clear hb2); (try clear hk); (try clear hi); have p193 : 0 ≤ ((ji23) : Int) := of_decide_eq_true (by (with_reducible assumption)); have q193 : (ji23) < (y191.length : Int) := (by have h_ : ((ji23) : Int) < ((t182.length : Int) : Int) := of_decide_eq_true (by (with_reducible assumption)); (have e_ := (Kd.R_reads' HO184.out).1; omega)); have ql193 : (((ji23) : Int) < ((t182.length : Int) : Int)) = True := eq_true (of_decide_eq_true (by (with_reducible assumption))); obtain ⟨ad193, e193, hx193_0, hx193_1, hx193_2⟩ := at_T31 (Kd.R_reads' HO184.out).2.2 (ji23) p193 q193; obtain rfl : (⟨go33, 0, none⟩ : Addr) = ad193 := (by injection e193); ((simp only [add_at] at hx193_0)); (try rw [Nat.zero_add] at hx193_0); ((simp only [add_at] at hx193_1)); (try rw [Nat.zero_add] at hx193_1); ((simp only [add_at] at hx193_2)); (try rw [Nat.zero_add] at hx193_2); replace p193 := eq_true p193; replace q193 := eq_true q193) | (go_at_call 35; (with_reducible refine (hortatorref7_Load.calls ((rd_T31 y191 (ji23)).f0) ((rd_T31 y191 (ji23)).f1) ((rd_T31 y191 (ji23)).f2) true _ A39.out).mono ?_); rintro e w58 ⟨rfl, hb⟩; have n0_ := Aside0.mk (Kd.R_below (by exact HO_0.out) hb); have n1_ := Aside0.mk (Kd.V_below (by exact HO170.out) hb); have n2_ := Aside0.mk (Kd.V_below (by exact HO178.out) hb); have n3_ := Aside0.mk (Kd.R_below (by exact HO181.out) hb); have n4_ := Aside0.mk (Kd.R_below (by exact HO184.out) hb); have n5_ := Aside0.mk (below_step (by repeat ((with_reducible (exact HB.out)))) hb); clear HO_0; clear HO170; clear HO178; clear HO181; clear HO184; clear HB; have HO_0 := n0_; have HO170 := n1_; have HO178 := n2_; have HO181 := n3_; have HO184 := n4_; have HB := n5_; clear n0_ n1_ n2_ n3_ n4_ n5_; (try clear hb); (try clear hb2); (try clear hk); (try clear hi)) | (go_at_call 34; refine calls_of_args (args' := #[.slice (some ⟨go33, 0, none⟩) y191.length co49]) (by (rw [show y191.length = t182.length from (Kd.R_reads' HO184.out).1.symm] <;> rfl)) ?_; (with_reducible refine (demand_Fits.calls kj8 _ _ y191 t195 _ ?side1 ?side2 A41.out).mono ?_); (case side1 => repeat ((exact (Kd.R_reads' HO184.out).2.2))); (case side2 => rw [show y191.length = t182.length from (Kd.R_reads' HO184.out).1.symm]; exact (Kd.R_reads' HO184.out).2.1); rintro e w59 ⟨rfl, hb⟩; have n0_ := Aside0.mk (Kd.R_below (by exact HO_0.out) hb); have n1_ := Aside0.mk (Kd.V_below (by exact HO170.out) hb); have n2_ := Aside0.mk (Kd.V_below (by exact HO178.out) hb); have n3_ := Aside0.mk (Kd.R_below (by exact HO181.out) hb); have n4_ := Aside0.mk (Kd.R_below (by exact HO184.out) hb); have n5_ := Aside0.mk (below_step (by repeat ((with_reducible (exact HB.out)))) hb); clear HO_0; clear HO170; clear HO178; clear HO181; clear HO184; clear HB; have HO_0 := n0_; have HO170 := n1_; have HO178 := n2_; have HO181 := n3_; have HO184 := n4_; have HB := n5_; clear n0_ n1_ n2_ n3_ n4_ n5_; (try clear hb); (try clear hb2); (try clear hk); (try clear hi)))
               go_ret
               exact ⟨by (rfl), by repeat ((with_reducible (exact HB.out)))⟩
              ·replace c40 := Bool.eq_false_iff.mpr c40
               subst c40
               have H1 : (some true) = some r := by rw [if_neg (show ¬ (false = true) by decide)] at H; exact H
               clear H
               have H := H1
               clear H1
               obtain rfl := Option.some.inj H
               obtain ⟨Ao60, co60, eo60⟩ := Kd.R_slice HO_0.out
               subst eo60
               try go_wp2
               have n0_ := Aside0.mk (Kd.R_drew HO_0.out)
               have n1_ := Aside0.mk (below_drew1 HB.out)
               clear HO_0
               clear HB
               have HO_0 := n0_
               have HB := n1_
               clear n0_ n1_
               have q62 : ((ji23) : Int) ≤ ((t162.length : Int) : Int) := of_decide_eq_true (by (with_reducible assumption))
               obtain ⟨i062, hi062, _, hsz62, _⟩ := info_parts info31
               have hroom62 : t162.length ≤ co60 := (Kd.R_reads' HO_0.out).2.1
               have hC62 : Kd.F k31 _ _ Ao60 t162.length t162 := (Kd.V_at (base := w.heap.size) (Kd.R_V HO_0.out)).2.2
               have hcut62 := cut_to (P := Tryz.prog) 22 31 .i64 Tryz.underlying22 hi062 Ao60 t162.length co60 (ji23) (of_decide_eq_true (by (with_reducible assumption))) q62 hroom62
               have hr62 := Kd.F_imp hC62 (fun _ hC_ => Kd.C_take (m := ((ji23) : Int).toNat) hC_ (by omega))
               have hy62 : y166.length = ((ji23) : Int).toNat := (by rw [Ny166.out, List.length_take]; omega)
               rw [← Ny166.out] at hr62
               rw [← hy62] at hcut62
               have HO170 := Aside0.mk (show Kd.V k31 31 _ w.heap.size _ (.slice Ao60 y166.length co60) y166 from Kd.V_mk (by omega) hr62)
               have HC170 := Aside0.mk (show y166.length ≤ co60 from by omega)
               clear hr62 hC62 hroom62 hi062 hsz62
               have KY62 := Aside0.mk hy62
               clear hy62
               replace q62 := eq_true q62
               have q63 : ((ji27) : Int) ≤ ((t162.length : Int) : Int) := of_decide_eq_true (by (with_reducible assumption))
               obtain ⟨i063, hi063, _, hsz63, _⟩ := info_parts info31
               have hroom63 : t162.length ≤ co60 := (Kd.R_reads' HO_0.out).2.1
               have hC63 : Kd.F k31 _ _ Ao60 t162.length t162 := (Kd.V_at (base := w.heap.size) (Kd.R_V HO_0.out)).2.2
               have q063 : (0 : Int) ≤ ((ji27) : Int) := of_decide_eq_true (by (with_reducible assumption))
               have hcut63 := cut_from (P := Tryz.prog) 22 31 .i64 Tryz.underlying22 hi063 3 hsz63 Ao60 t162.length co60 (ji27) q063 q63
               have hr63 := Kd.F_cut (m := ((ji27) : Int).toNat) (c := co60) hC63 (by omega) hroom63
               obtain ⟨A63, hA63⟩ : ∃ A1, A1 = (if co60 = ((ji27) : Int).toNat then Ao60 else (Ao60 : Option Addr).map (·.add (((ji27) : Int).toNat * 3))) := ⟨_, rfl⟩
               obtain ⟨c63, hc63⟩ : ∃ c1, c1 = co60 - ((ji27) : Int).toNat := ⟨_, rfl⟩
               have hy63 : y174.length = t162.length - ((ji27) : Int).toNat := (by rw [Ny174.out, List.length_drop] <;> omega)
               rw [show (t162).drop ((ji27) : Int).toNat = y174 from Ny174.out.symm] at hr63
               replace hr63 : Kd.F k31 _ _ A63 y174.length y174 := (by rw [hA63]; exact hr63)
               rw [← hy63, ← hA63, ← hc63] at hcut63
               have HO178 := Aside0.mk (show Kd.V k31 31 _ w.heap.size _ (.slice A63 y174.length c63) y174 from Kd.V_mk (by rw [hy63, hc63]; exact Nat.sub_le_sub_right hroom63 _) hr63)
               have HC178 := Aside0.mk (show y174.length ≤ c63 from by rw [hy63, hc63]; exact Nat.sub_le_sub_right hroom63 _)
               clear hr63 hC63 hroom63 hi063 hsz63 hc63
               have KY63 := Aside0.mk hy63
               have KA63 := Aside0.mk hA63
               clear hy63 hA63
               replace q63 := eq_true q63
               refine start_ (n := 10) (S := fun w' => True) (ds := []) #[false, false, false, false, false, false, false, false, false, false] (by kernel_rfl) rfl rfl trivial (fun hHeld => ?_); refine with_tabW hortatorlaw9_DemandLess.tab8 hortatorlaw9_DemandLess.bits8 (fun HT_ HW_ => ?_)
               generalize wc.drew = w61 at HO_0 HB HO170 HO178 hHeld ⊢
               refine pure_ (i := 0) (N := some 36) (v := ?_) (a' := ?_) #[true, false, false, false, false, false, false, false, false, false] rfl rfl (any_of HT_.out (by kernel_rfl)) (fun _ _ _ h => h) (Or.inl ⟨by rfl, ?_⟩) ?_ ?_
               rotate_left
               ·intro w'
                go_simp
                with_reducible rfl
               rotate_left
               ·simp only [Act.put, List.setIfInBounds_toArray, List.set_cons_zero, List.set_cons_succ, i64_w, i32_w]
                rfl
               refine pure_ (i := 1) (N := some 37) (v := ?_) (a' := ?_) #[true, true, false, false, false, false, false, false, false, false] rfl rfl (any_of HT_.out (by kernel_rfl)) (fun _ _ _ h => h) (Or.inl ⟨by rfl, ?_⟩) ?_ ?_
               rotate_left
               ·intro w'
                go_simp
                with_reducible rfl
               rotate_left
               ·simp only [Act.put, List.setIfInBounds_toArray, List.set_cons_zero, List.set_cons_succ, i64_w, i32_w]
                rfl
               refine pure_ (i := 2) (N := some 38) (v := ?_) (a' := ?_) #[true, true, true, false, false, false, false, false, false, false] rfl rfl (any_of HT_.out (by kernel_rfl)) (fun _ _ _ h => h) (Or.inl ⟨by rfl, ?_⟩) ?_ ?_
               rotate_left
               ·intro w'
                go_simp
                with_reducible rfl
               rotate_left
               ·simp only [Act.put, List.setIfInBounds_toArray, List.set_cons_zero, List.set_cons_succ, i64_w, i32_w]
                rfl
               refine pure_ (i := 4) (N := some 40) (v := ?_) (a' := ?_) #[true, true, true, false, true, false, false, false, false, false] rfl rfl (any_of HT_.out (by kernel_rfl)) (fun _ _ _ h => h) (Or.inl ⟨by rfl, ?_⟩) ?_ ?_
               rotate_left
               ·intro w'
                go_simp
                with_reducible rfl
               rotate_left
               ·simp only [Act.put, List.setIfInBounds_toArray, List.set_cons_zero, List.set_cons_succ, i64_w, i32_w]
                rfl
               refine pure_ (i := 5) (N := some 41) (v := ?_) (a' := ?_) #[true, true, true, false, true, true, false, false, false, false] rfl rfl (any_of HT_.out (by kernel_rfl)) (fun _ _ _ h => h) (Or.inl ⟨by rfl, ?_⟩) ?_ ?_
               rotate_left
               ·intro w'
                go_simp
                with_reducible rfl
               rotate_left
               ·simp only [Act.put, List.setIfInBounds_toArray, List.set_cons_zero, List.set_cons_succ, i64_w, i32_w]
                rfl
               refine pure_ (i := 6) (N := some 42) (v := ?_) (a' := ?_) #[true, true, true, false, true, true, true, false, false, false] rfl rfl (any_of HT_.out (by kernel_rfl)) (fun _ _ _ h => h) (Or.inl ⟨by rfl, ?_⟩) ?_ ?_
               rotate_left
               ·intro w'
                go_simp
                with_reducible rfl
               rotate_left
               ·simp only [Act.put, List.setIfInBounds_toArray, List.set_cons_zero, List.set_cons_succ, i64_w, i32_w]
                rfl
               refine pure_ (i := 7) (N := some 43) (v := ?_) (a' := ?_) #[true, true, true, false, true, true, true, true, false, false] rfl rfl (any_of HT_.out (by kernel_rfl)) (fun _ _ _ h => h) (Or.inl ⟨by rfl, ?_⟩) ?_ ?_
               rotate_left
               ·intro w'
                go_simp
                with_reducible rfl
               rotate_left
               ·simp only [Act.put, List.setIfInBounds_toArray, List.set_cons_zero, List.set_cons_succ, i64_w, i32_w]
                rfl
               refine one_ (i := 3) (N := some 39) #[true, true, true, true, true, true, true, true, false, false] rfl rfl (one_of HT_.out (by kernel_rfl)) (by decide) (fun K hK => ?_)
               refine Kd.R_append_rows_step k31 (w0 := w) w.heap.size (by rfl) (.const (.slice none 0 0)) (.tmp 38) 22 31 (.agg #[(.int .i64 0), (.int .i64 0), (.int .i64 0)]) 24 rfl Tryz.underlying22 info31 rfl (by decide) (by omega) (.slice none 0 0) ([] : List (S31)) y166 _ _ _ (fun k_ => some k_ ≠ (.slice Ao60 t162.length co60 : Value).ownBlock) (fun _ => False) rfl rfl ?aO ?aR (fun _ _ h => h) (fun _ h => h.elim) ?aF ?aB ?aS ?aL ?_
               (case aR => repeat ((exact (Kd.V_reads' HO170.out).2.2)))
               (case aB => exact (by repeat ((with_reducible (exact HB.out)))))
               (case aF => exact (fun k_ hk => Kd.fresh' (Kd.R_lt (by exact HO_0.out)) k_ hk))
               (case aO => exact ((Kd.R_nil _ _ _ _ (fun k_ => some k_ ≠ (.slice Ao60 t162.length co60 : Value).ownBlock))))
               (case aS => exact (below_size (by repeat ((with_reducible (exact HB.out))))))
               (case aL => have := LMc26.out; omega)
               intro v172 w64 ho hb hg hat
               rw [← Ny171.out] at ho
               have n0_ := Aside0.mk (Kd.R_after (Kd.R_apart_nil (by exact HO_0.out)) hg hat)
               have n1_ := Aside0.mk (Kd.V_afterv (Kd.V_apart_nil (by exact HO170.out)) hg hat)
               have n2_ := Aside0.mk (Kd.V_afterv (Kd.V_apart_nil (by exact HO178.out)) hg hat)
               have n3_ := Aside0.mk (hb)
               have n4_ := Aside0.mk (ho)
               clear HO_0
               clear HO170
               clear HO178
               clear HB
               have HO_0 := n0_
               have HO170 := n1_
               have HO178 := n2_
               have HB := n3_
               have HO173 := n4_
               clear n0_ n1_ n2_ n3_ n4_
               clear ho hb hg hat
               refine hK.out _ _ trivial (fun hHeld => ?_)
               clear hK K
               refine norm_ (a' := ?_) ?_ ?_
               rotate_left
               ·show Act.put _ (some 39) _ = _
                simp only [Act.put, List.setIfInBounds_toArray, List.set_cons_zero, List.set_cons_succ, i64_w, i32_w]
                rfl
               refine one_ (i := 8) (N := some 44) #[true, true, true, true, true, true, true, true, true, false] rfl rfl (one_of HT_.out (by kernel_rfl)) (by decide) (fun K hK => ?_)
               refine Kd.R_append_rows_step k31 (w0 := w) w.heap.size (by rfl) (.tmp 39) (.tmp 43) 22 31 (.agg #[(.int .i64 0), (.int .i64 0), (.int .i64 0)]) 24 rfl Tryz.underlying22 info31 rfl (by decide) (by omega) v172 y171 y174 _ _ _ (fun k_ => some k_ ≠ (.slice Ao60 t162.length co60 : Value).ownBlock) (fun _ => False) rfl rfl ?aO ?aR (fun _ _ h => h) (fun _ h => h.elim) ?aF ?aB ?aS ?aL ?_
               (case aR => repeat ((exact (Kd.V_reads' HO178.out).2.2)))
               (case aB => exact (by repeat ((with_reducible (exact HB.out)))))
               (case aF => exact (fun k_ hk => Kd.fresh' (Kd.R_lt (by exact HO_0.out)) k_ hk))
               (case aO => exact (by exact HO173.out))
               (case aS => exact (below_size (by repeat ((with_reducible (exact HB.out))))))
               (case aL => have := LMc30.out; omega)
               intro v180 w65 ho hb hg hat
               rw [← Ny179.out] at ho
               have n0_ := Aside0.mk (Kd.R_after (ok := (fun _ => True)) (by exact HO_0.out) hg hat)
               have n1_ := Aside0.mk (Kd.V_afterv (ok := (fun _ => True)) (by exact HO170.out) hg hat)
               have n2_ := Aside0.mk (Kd.V_afterv (ok := (fun _ => True)) (by exact HO178.out) hg hat)
               have n3_ := Aside0.mk (hb)
               have n4_ := Aside0.mk (ho)
               clear HO_0
               clear HO170
               clear HO178
               clear HB
               clear HO173
               have HO_0 := n0_
               have HO170 := n1_
               have HO178 := n2_
               have HB := n3_
               have HO181 := n4_
               clear n0_ n1_ n2_ n3_ n4_
               clear ho hb hg hat
               refine hK.out _ _ trivial (fun hHeld => ?_)
               clear hK K
               refine norm_ (a' := ?_) ?_ ?_
               rotate_left
               ·show Act.put _ (some 44) _ = _
                simp only [Act.put, List.setIfInBounds_toArray, List.set_cons_zero, List.set_cons_succ, i64_w, i32_w]
                rfl
               refine pure_ (i := 9) (N := some 13) (v := ?_) (a' := ?_) #[true, true, true, true, true, true, true, true, true, true] rfl rfl (any_of HT_.out (by kernel_rfl)) (fun _ _ _ h => h) (Or.inl ⟨by rfl, ?_⟩) ?_ ?_
               rotate_left
               ·intro w'
                go_simp
                with_reducible rfl
               rotate_left
               ·simp only [Act.put, List.setIfInBounds_toArray, List.set_cons_zero, List.set_cons_succ, i64_w, i32_w]
                rfl
               refine done_ (done_of HT_.out (by kernel_rfl)) ?_
               try go_wp2_with (first | ((with_reducible refine gate_callee (f := 24) rfl ?_); refine goesL_ (some 46) rfl rfl Tryz.func24 (by kernel_rfl) rfl #[.slice Ao60 t162.length co60] rfl (by (try simp only [List.map_toArray, List.map_cons, List.map_nil]); (rfl)) ?_; (with_reducible refine (hortatorlaw9_Loads.calls _ _ t162 t182 _ ?side1 ?side2 A31.out).mono ?_); (case side1 => repeat ((exact (Kd.R_reads' HO_0.out).2.2))); (case side2 => exact (Kd.R_reads' HO_0.out).2.1); rintro e w66 ⟨v183, rfl, ho0, hb⟩; refine ⟨_, rfl, ?_⟩; have n0_ := Aside0.mk (Kd.R_elder' (by exact HO_0.out) (Kd.R_base ho0) hb); have n1_ := Aside0.mk (Kd.V_elder' (by exact HO170.out) (Kd.R_base ho0) hb); have n2_ := Aside0.mk (Kd.V_elder' (by exact HO178.out) (Kd.R_base ho0) hb); have n3_ := Aside0.mk (Kd.R_elder' (by exact HO181.out) (Kd.R_base ho0) hb); have n4_ := Aside0.mk (Kd.R_lower (Kd.R_new' (Kd.R_new' ho0 (Kd.R_lt (by exact HO_0.out))) (Kd.R_lt (by exact HO181.out))) (below_size (by repeat ((with_reducible (exact HB.out)))))); have n5_ := Aside0.mk (below_step (by repeat ((with_reducible (exact HB.out)))) hb); clear HO_0; clear HO170; clear HO178; clear HO181; clear HB; have HO_0 := n0_; have HO170 := n1_; have HO178 := n2_; have HO181 := n3_; have HO184 := n4_; have HB := n5_; clear n0_ n1_ n2_ n3_ n4_ n5_; (try clear hb); (try clear hb2); (try clear hk); (try clear hi); (try clear ho0); obtain ⟨Ao67, co67, eo67⟩ := Kd.R_slice HO184.out; subst eo67; have p185 : 0 ≤ ((ji23) : Int) := of_decide_eq_true (by (with_reducible assumption)); have q185 : (ji23) < (t182.length : Int) := of_decide_eq_true (by (with_reducible assumption)); obtain ⟨ad185, e185, hx185_0, hx185_1, hx185_2⟩ := at_T31 (Kd.R_reads' HO184.out).2.2 (ji23) p185 q185; cases e185; replace p185 := eq_true p185; replace q185 := eq_true q185; have p33 : 0 ≤ ((ji23) : Int) := of_decide_eq_true (by (with_reducible assumption)); have q33 : ((ji23) : Int) < ((t182.length : Int) : Int) := of_decide_eq_true (by (with_reducible assumption)); obtain ⟨go33, co33, eo33, gb33, gl33, cl33, HG33⟩ := Kd.R_form HO184.out (by omega); ((cases eo33)); have GB33 := Aside0.mk gb33; have GG33 := Aside0.mk HG33; clear gb33 gl33 HG33; ((skip)); ((skip)); ((skip)); obtain ⟨ce33, hcl33, hM33, hcc33, hfr33⟩ := Kd.R_elem HO184.out z31 ((ji23) : Int) p33 q33; obtain rfl := k31_openM hM33; have hx33_0 : w66.cell? ⟨go33, ((ji23) : Int).toNat * 3, none⟩ = some (.int .i64 ((rd_T31 t182 (ji23)).f0)) := hcc33 0 _ rfl; have hx33_1 : w66.cell? ⟨go33, ((ji23) : Int).toNat * 3 + 1, none⟩ = some (.int .i64 ((rd_T31 t182 (ji23)).f1)) := hcc33 1 _ rfl; have hx33_2 : w66.cell? ⟨go33, ((ji23) : Int).toNat * 3 + 2, none⟩ = some (.int .i64 ((rd_T31 t182 (ji23)).f2)) := hcc33 2 _ rfl; have hf33_0 : w66.frozen? ⟨go33, ((ji23) : Int).toNat * 3, none⟩ = false := hfr33 0; have hf33_1 : w66.frozen? ⟨go33, ((ji23) : Int).toNat * 3 + 1, none⟩ = false := hfr33 1; have hf33_2 : w66.frozen? ⟨go33, ((ji23) : Int).toNat * 3 + 2, none⟩ = false := hfr33 2; clear hcl33 hcc33 hfr33 hM33; replace p33 := eq_true p33; replace q33 := eq_true q33; have n_ := Aside0.mk (Kd.R_mono (ok' := (fun k_ => some k_ ≠ (.slice Ao60 t162.length co60 : Value).ownBlock ∧ some k_ ≠ (v180 : Value).ownBlock)) HO184.out (fun k_ hk => ⟨hk.1.2, hk.2⟩)); clear HO184; have HO184 := n_; clear n_; have HX68 := Aside0.mk (show Kd.R k31 31 w66 w.heap.size (fun k_ => some k_ ≠ (.slice Ao60 t162.length co60 : Value).ownBlock ∧ some k_ ≠ (v180 : Value).ownBlock) (.slice (some ⟨go33, 0, none⟩) t182.length co67) t182 from (by exact HO184.out)); obtain ⟨ce68, hcl68, hM68, hcc68, hfr68⟩ := Kd.R_elem HX68.out z31 ((ji23) : Int) (of_decide_eq_true (by (with_reducible assumption))) (by have h_ : ((ji23) : Int) < ((t182.length : Int) : Int) := of_decide_eq_true (by (with_reducible assumption)); (exact h_)); obtain rfl := k31_openM hM68; have HP68 := Kd.R_seg HX68.out ((ji23) : Int) (of_decide_eq_true (by (with_reducible assumption))) (by have h_ : ((ji23) : Int) < ((t182.length : Int) : Int) := of_decide_eq_true (by (with_reducible assumption)); (exact h_)) (seg := [.int .i64 (wrap64 (((rd_T31 t182 (ji23)).f0) - (Go.bits .and .i64 a2 3)))]) (j := 0) hcl68 hcc68 (show 1 ≤ 3 from by decide) (x' := (⟨wrap64 (((rd_T31 t182 (ji23)).f0) - (Go.bits .and .i64 a2 3)), (rd_T31 t182 (ji23)).f1, (rd_T31 t182 (ji23)).f2⟩ : S31)) (k31_mkM _ _ _ (⟨wrap64 (((rd_T31 t182 (ji23)).f0) - (Go.bits .and .i64 a2 3)), (rd_T31 t182 (ji23)).f1, (rd_T31 t182 (ji23)).f2⟩ : S31) ) (fun _ hk => hk); have hx68_0 := hcc68 0 _ rfl; (try simp only [show (k31).sz = 3 from rfl, Nat.mul_one, Nat.add_zero] at hx68_0); have hf68_0 := hfr68 0; (try simp only [show (k31).sz = 3 from rfl, Nat.mul_one, Nat.add_zero] at hf68_0); clear hcl68 hcc68 hfr68 hM68) | ((with_reducible refine gate_store (t := 2) (p := 56) rfl ?_); refine store_event (t := 2) (p := 56) (v := ?vo_w69) (w1 := (w66.setCell ⟨go33, ((ji23) : Int).toNat * 3, none⟩ (.int .i64 (wrap64 (((rd_T31 t182 (ji23)).f0) - (Go.bits .and .i64 a2 3)))))) ?hg ?ho ?hn ?hr ?_; (case ho => rfl); (case hg => rfl); (case hn => rfl); (case hr => (go_simp; done)); intro w69 hw; have hg : w66.grownBy w69 (some go33) := (by rw [hw]; exact HP68.2); have hp_ : Kd.R k31 31 w69 w.heap.size (fun k_ => some k_ ≠ (.slice Ao60 t162.length co60 : Value).ownBlock ∧ some k_ ≠ (v180 : Value).ownBlock) (.slice (some ⟨go33, 0, none⟩) t182.length co67) y186 := (by rw [hw, Ny186.out]; exact HP68.1); clear HP68; have n0_ := Aside0.mk (Kd.R_after (v := (.slice (some ⟨go33, 0, none⟩) t182.length co67)) (v1 := (.slice (some ⟨go33, 0, none⟩) t182.length co67)) (ok := (fun k_ => some k_ ≠ (v180 : Value).ownBlock)) (by exact Kd.R_mono HO_0.out (fun _ hk => ⟨hk.1.2, hk.2⟩)) hg (.inl rfl)); have n1_ := Aside0.mk (Kd.V_afterv (v := (.slice (some ⟨go33, 0, none⟩) t182.length co67)) (v1 := (.slice (some ⟨go33, 0, none⟩) t182.length co67)) (ok := (fun k_ => some k_ ≠ (v180 : Value).ownBlock)) (by exact Kd.V_mono HO170.out (fun _ hk => ⟨hk.1.2, hk.2⟩)) hg (.inl rfl)); have n2_ := Aside0.mk (Kd.V_afterv (v := (.slice (some ⟨go33, 0, none⟩) t182.length co67)) (v1 := (.slice (some ⟨go33, 0, none⟩) t182.length co67)) (ok := (fun k_ => some k_ ≠ (v180 : Value).ownBlock)) (by exact Kd.V_mono HO178.out (fun _ hk => ⟨hk.1.2, hk.2⟩)) hg (.inl rfl)); have n3_ := Aside0.mk (Kd.R_after (v := (.slice (some ⟨go33, 0, none⟩) t182.length co67)) (v1 := (.slice (some ⟨go33, 0, none⟩) t182.length co67)) (ok := (fun k_ => some k_ ≠ (.slice Ao60 t162.length co60 : Value).ownBlock)) (by exact HO181.out) hg (.inl rfl)); have n4_ := Aside0.mk (hp_); have n5_ := Aside0.mk ((by rw [hw]; exact below_set (HB.out) GB33.out : Below w.heap.size w w69)); clear HO_0; clear HO170; clear HO178; clear HO181; clear HO184; clear HB; have HO_0 := n0_; have HO170 := n1_; have HO178 := n2_; have HO181 := n3_; have HO184 := n4_; have HB := n5_; clear n0_ n1_ n2_ n3_ n4_ n5_; clear hg hw hp_; have p187 : 0 ≤ ((ji23) : Int) := of_decide_eq_true (by (with_reducible assumption)); have q187 : (ji23) < (y186.length : Int) := (by have h_ : ((ji23) : Int) < ((t182.length : Int) : Int) := of_decide_eq_true (by (with_reducible assumption)); (have e_ := (Kd.R_reads' HO184.out).1; omega)); have ql187 : (((ji23) : Int) < ((t182.length : Int) : Int)) = True := eq_true (of_decide_eq_true (by (with_reducible assumption))); obtain ⟨ad187, e187, hx187_0, hx187_1, hx187_2⟩ := at_T31 (Kd.R_reads' HO184.out).2.2 (ji23) p187 q187; obtain rfl : (⟨go33, 0, none⟩ : Addr) = ad187 := (by injection e187); ((simp only [add_at] at hx187_0)); ((simp only [add_at] at hx187_1)); ((simp only [add_at] at hx187_2)); replace p187 := eq_true p187; replace q187 := eq_true q187; have p34 : 0 ≤ ((ji23) : Int) := of_decide_eq_true (by (with_reducible assumption)); have q34 : ((ji23) : Int) < ((t182.length : Int) : Int) := of_decide_eq_true (by (with_reducible assumption)); obtain ⟨ce34, hcl34, hM34, hcc34, hfr34⟩ := Kd.R_elem HO184.out z31 ((ji23) : Int) p34 q34; obtain rfl := k31_openM hM34; have hx34_0 : w69.cell? ⟨go33, ((ji23) : Int).toNat * 3, none⟩ = some (.int .i64 ((rd_T31 y186 (ji23)).f0)) := hcc34 0 _ rfl; have hx34_1 : w69.cell? ⟨go33, ((ji23) : Int).toNat * 3 + 1, none⟩ = some (.int .i64 ((rd_T31 y186 (ji23)).f1)) := hcc34 1 _ rfl; have hx34_2 : w69.cell? ⟨go33, ((ji23) : Int).toNat * 3 + 2, none⟩ = some (.int .i64 ((rd_T31 y186 (ji23)).f2)) := hcc34 2 _ rfl; have hf34_0 : w69.frozen? ⟨go33, ((ji23) : Int).toNat * 3, none⟩ = false := hfr34 0; have hf34_1 : w69.frozen? ⟨go33, ((ji23) : Int).toNat * 3 + 1, none⟩ = false := hfr34 1; have hf34_2 : w69.frozen? ⟨go33, ((ji23) : Int).toNat * 3 + 2, none⟩ = false := hfr34 2; clear hcl34 hcc34 hfr34 hM34; replace p34 := eq_true p34; replace q34 := eq_true q34; have HX70 := Aside0.mk (show Kd.R k31 31 w69 w.heap.size (fun k_ => some k_ ≠ (.slice Ao60 t162.length co60 : Value).ownBlock ∧ some k_ ≠ (v180 : Value).ownBlock) (.slice (some ⟨go33, 0, none⟩) t182.length co67) y186 from (by exact HO184.out)); obtain ⟨ce70, hcl70, hM70, hcc70, hfr70⟩ := Kd.R_elem HX70.out z31 ((ji23) : Int) (of_decide_eq_true (by (with_reducible assumption))) (by have h_ : ((ji23) : Int) < ((t182.length : Int) : Int) := of_decide_eq_true (by (with_reducible assumption)); (exact h_)); obtain rfl := k31_openM hM70; have HP70 := Kd.R_seg HX70.out ((ji23) : Int) (of_decide_eq_true (by (with_reducible assumption))) (by have h_ : ((ji23) : Int) < ((t182.length : Int) : Int) := of_decide_eq_true (by (with_reducible assumption)); (exact h_)) (seg := [.int .i64 (wrap64 (((rd_T31 y186 (ji23)).f2) + (Go.bits .and .i64 a4 3)))]) (j := 2) hcl70 hcc70 (show 3 ≤ 3 from by decide) (x' := (⟨(rd_T31 y186 (ji23)).f0, (rd_T31 y186 (ji23)).f1, wrap64 (((rd_T31 y186 (ji23)).f2) + (Go.bits .and .i64 a4 3))⟩ : S31)) (k31_mkM _ _ _ (⟨(rd_T31 y186 (ji23)).f0, (rd_T31 y186 (ji23)).f1, wrap64 (((rd_T31 y186 (ji23)).f2) + (Go.bits .and .i64 a4 3))⟩ : S31) ) (fun _ hk => hk); have hx70_2 := hcc70 2 _ rfl; (try simp only [show (k31).sz = 3 from rfl, Nat.mul_one, Nat.add_zero] at hx70_2); have hf70_2 := hfr70 2; (try simp only [show (k31).sz = 3 from rfl, Nat.mul_one, Nat.add_zero] at hf70_2); clear hcl70 hcc70 hfr70 hM70) | ((with_reducible refine gate_store (t := 2) (p := 66) rfl ?_); refine store_event (t := 2) (p := 66) (v := ?vo_w71) (w1 := (w69.setCell ⟨go33, ((ji23) : Int).toNat * 3 + 2, none⟩ (.int .i64 (wrap64 (((rd_T31 y186 (ji23)).f2) + (Go.bits .and .i64 a4 3)))))) ?hg ?ho ?hn ?hr ?_; (case ho => rfl); (case hg => rfl); (case hn => rfl); (case hr => (go_simp; done)); intro w71 hw; have hg : w69.grownBy w71 (some go33) := (by rw [hw]; exact HP70.2); have hp_ : Kd.R k31 31 w71 w.heap.size (fun k_ => some k_ ≠ (.slice Ao60 t162.length co60 : Value).ownBlock ∧ some k_ ≠ (v180 : Value).ownBlock) (.slice (some ⟨go33, 0, none⟩) t182.length co67) y188 := (by rw [hw, Ny188.out]; exact HP70.1); clear HP70; have n0_ := Aside0.mk (Kd.R_after (v := (.slice (some ⟨go33, 0, none⟩) t182.length co67)) (v1 := (.slice (some ⟨go33, 0, none⟩) t182.length co67)) (ok := (fun k_ => some k_ ≠ (v180 : Value).ownBlock)) (by exact HO_0.out) hg (.inl rfl)); have n1_ := Aside0.mk (Kd.V_afterv (v := (.slice (some ⟨go33, 0, none⟩) t182.length co67)) (v1 := (.slice (some ⟨go33, 0, none⟩) t182.length co67)) (ok := (fun k_ => some k_ ≠ (v180 : Value).ownBlock)) (by exact HO170.out) hg (.inl rfl)); have n2_ := Aside0.mk (Kd.V_afterv (v := (.slice (some ⟨go33, 0, none⟩) t182.length co67)) (v1 := (.slice (some ⟨go33, 0, none⟩) t182.length co67)) (ok := (fun k_ => some k_ ≠ (v180 : Value).ownBlock)) (by exact HO178.out) hg (.inl rfl)); have n3_ := Aside0.mk (Kd.R_after (v := (.slice (some ⟨go33, 0, none⟩) t182.length co67)) (v1 := (.slice (some ⟨go33, 0, none⟩) t182.length co67)) (ok := (fun k_ => some k_ ≠ (.slice Ao60 t162.length co60 : Value).ownBlock)) (by exact HO181.out) hg (.inl rfl)); have n4_ := Aside0.mk (hp_); have n5_ := Aside0.mk ((by rw [hw]; exact below_set (HB.out) GB33.out : Below w.heap.size w w71)); clear HO_0; clear HO170; clear HO178; clear HO181; clear HO184; clear HB; have HO_0 := n0_; have HO170 := n1_; have HO178 := n2_; have HO181 := n3_; have HO184 := n4_; have HB := n5_; clear n0_ n1_ n2_ n3_ n4_ n5_; clear hg hw hp_))
               have n0_ := Aside0.mk (Kd.R_drew HO_0.out)
               have n1_ := Aside0.mk (Kd.V_drew HO170.out)
               have n2_ := Aside0.mk (Kd.V_drew HO178.out)
               have n3_ := Aside0.mk (Kd.R_drew HO181.out)
               have n4_ := Aside0.mk (Kd.R_drew HO184.out)
               have n5_ := Aside0.mk (below_drew1 HB.out)
               clear HO_0
               clear HO170
               clear HO178
               clear HO181
               clear HO184
               clear HB
               have HO_0 := n0_
               have HO170 := n1_
               have HO178 := n2_
               have HO181 := n3_
               have HO184 := n4_
               have HB := n5_
               clear n0_ n1_ n2_ n3_ n4_ n5_
               have p189 : 0 ≤ ((ji23) : Int) := of_decide_eq_true (by (with_reducible assumption))
               have q189 : (ji23) < (y188.length : Int) := (by have h_ : ((ji23) : Int) < ((t182.length : Int) : Int) := of_decide_eq_true (by (with_reducible assumption)); (have e_ := (Kd.R_reads' HO184.out).1; omega))
               have ql189 : (((ji23) : Int) < ((t182.length : Int) : Int)) = True := eq_true (of_decide_eq_true (by (with_reducible assumption)))
               obtain ⟨ad189, e189, hx189_0, hx189_1, hx189_2⟩ := at_T31 (Kd.R_reads' HO184.out).2.2 (ji23) p189 q189
               obtain rfl : (⟨go33, 0, none⟩ : Addr) = ad189 := (by injection e189)
               ((simp only [add_at] at hx189_0))
               ((simp only [add_at] at hx189_1))
               ((simp only [add_at] at hx189_2))
               replace p189 := eq_true p189
               replace q189 := eq_true q189
               have p190 : 0 ≤ ((ji23) : Int) := of_decide_eq_true (by (with_reducible assumption))
               have q190 : (ji23) < (y188.length : Int) := (by have h_ : ((ji23) : Int) < ((t182.length : Int) : Int) := of_decide_eq_true (by (with_reducible assumption)); (have e_ := (Kd.R_reads' HO184.out).1; omega))
               have ql190 : (((ji23) : Int) < ((t182.length : Int) : Int)) = True := eq_true (of_decide_eq_true (by (with_reducible assumption)))
               obtain ⟨ad190, e190, hx190_0, hx190_1, hx190_2⟩ := at_T31 (Kd.R_reads' HO184.out).2.2 (ji23) p190 q190
               obtain rfl : (⟨go33, 0, none⟩ : Addr) = ad190 := (by injection e190)
               ((simp only [add_at] at hx190_0))
               ((simp only [add_at] at hx190_1))
               ((simp only [add_at] at hx190_2))
               replace p190 := eq_true p190
               replace q190 := eq_true q190
               have p36 : 0 ≤ ((ji23) : Int) := of_decide_eq_true (by (with_reducible assumption))
               have q36 : ((ji23) : Int) < ((t182.length : Int) : Int) := of_decide_eq_true (by (with_reducible assumption))
               obtain ⟨ce36, hcl36, hM36, hcc36, hfr36⟩ := Kd.R_elem HO184.out z31 ((ji23) : Int) p36 q36
               obtain rfl := k31_openM hM36
               have hx36_0 : World.cell? _ ⟨go33, ((ji23) : Int).toNat * 3, none⟩ = some (.int .i64 ((rd_T31 y188 (ji23)).f0)) := hcc36 0 _ rfl
               have hx36_1 : World.cell? _ ⟨go33, ((ji23) : Int).toNat * 3 + 1, none⟩ = some (.int .i64 ((rd_T31 y188 (ji23)).f1)) := hcc36 1 _ rfl
               have hx36_2 : World.cell? _ ⟨go33, ((ji23) : Int).toNat * 3 + 2, none⟩ = some (.int .i64 ((rd_T31 y188 (ji23)).f2)) := hcc36 2 _ rfl
               have hf36_0 : World.frozen? _ ⟨go33, ((ji23) : Int).toNat * 3, none⟩ = false := hfr36 0
               have hf36_1 : World.frozen? _ ⟨go33, ((ji23) : Int).toNat * 3 + 1, none⟩ = false := hfr36 1
               have hf36_2 : World.frozen? _ ⟨go33, ((ji23) : Int).toNat * 3 + 2, none⟩ = false := hfr36 2
               clear hcl36 hcc36 hfr36 hM36
               replace p36 := eq_true p36
               replace q36 := eq_true q36
               obtain ⟨ce73, hcl73, hM73, hcc73, hfr73⟩ := Kd.R_elem HO184.out z31 ((ji23) : Int) (of_decide_eq_true (by (with_reducible assumption))) (by have h_ : ((ji23) : Int) < ((t182.length : Int) : Int) := of_decide_eq_true (by (with_reducible assumption)); (exact h_))
               obtain rfl := k31_openM hM73
               have HP73 := (Kd.R_seg HO184.out ((ji23) : Int) (of_decide_eq_true (by (with_reducible assumption))) (by have h_ : ((ji23) : Int) < ((t182.length : Int) : Int) := of_decide_eq_true (by (with_reducible assumption)); (exact h_)) (seg := [.int .i64 ji35]) (j := 1) hcl73 hcc73 (show 2 ≤ 3 from by decide) (x' := (⟨(rd_T31 y188 (ji23)).f0, ji35, (rd_T31 y188 (ji23)).f2⟩ : S31)) (k31_mkM _ _ _ (⟨(rd_T31 y188 (ji23)).f0, ji35, (rd_T31 y188 (ji23)).f2⟩ : S31) ) (fun _ hk => hk)).1
               rw [← Ny191.out] at HP73
               have HQ73 := Aside0.mk HP73
               clear hcl73 hcc73 hfr73 hM73 HP73
               try rw [Nat.zero_add] at hx189_0
               try rw [Nat.zero_add] at hx189_1
               try rw [Nat.zero_add] at hx189_2
               try rw [Nat.zero_add] at hx190_0
               try rw [Nat.zero_add] at hx190_1
               try rw [Nat.zero_add] at hx190_2
               refine start_ (n := 19) (S := fun w' => w'.cell? ⟨go33, ((ji23)).toNat * 3, none⟩ = some (.int .i64 ((rd_T31 y188 (ji23)).f0)) ∧ w'.cell? ⟨go33, ((ji23)).toNat * 3 + 1, none⟩ = some (.int .i64 ((rd_T31 y188 (ji23)).f1)) ∧ w'.cell? ⟨go33, ((ji23)).toNat * 3 + 2, none⟩ = some (.int .i64 ((rd_T31 y188 (ji23)).f2)) ∧ w'.cell? ⟨go33, ((ji23)).toNat * 3, none⟩ = some (.int .i64 ((rd_T31 y188 (ji23)).f0)) ∧ w'.cell? ⟨go33, ((ji23)).toNat * 3 + 1, none⟩ = some (.int .i64 ((rd_T31 y188 (ji23)).f1)) ∧ w'.cell? ⟨go33, ((ji23)).toNat * 3 + 2, none⟩ = some (.int .i64 ((rd_T31 y188 (ji23)).f2))) (ds := [18]) #[false, false, false, false, false, false, false, false, false, false, false, false, false, false, false, false, false, false, false] (by kernel_rfl) rfl rfl ⟨hx189_0, hx189_1, hx189_2, hx190_0, hx190_1, hx190_2⟩ (fun hHeld => ?_); refine with_tabW hortatorlaw9_DemandLess.tab12 hortatorlaw9_DemandLess.bits12 (fun HT_ HW_ => ?_)
               generalize w71.drew = w72 at HO_0 HO170 HO178 HO181 HO184 HB HQ73 hf36_0 hf36_1 hf36_2 hx189_0 hx189_1 hx189_2 hx190_0 hx190_1 hx190_2 hx36_0 hx36_1 hx36_2 hHeld ⊢
               refine pure_ (i := 0) (N := some 67) (v := ?_) (a' := ?_) #[true, false, false, false, false, false, false, false, false, false, false, false, false, false, false, false, false, false, false] rfl rfl (any_of HT_.out (by kernel_rfl)) (fun _ _ _ h => h) (Or.inl ⟨by rfl, ?_⟩) ?_ ?_
               rotate_left
               ·intro w'
                go_simp
                with_reducible rfl
               rotate_left
               ·simp only [Act.put, List.setIfInBounds_toArray, List.set_cons_zero, List.set_cons_succ, i64_w, i32_w]
                rfl
               refine pure_ (i := 1) (N := some 68) (v := ?_) (a' := ?_) #[true, true, false, false, false, false, false, false, false, false, false, false, false, false, false, false, false, false, false] rfl rfl (any_of HT_.out (by kernel_rfl)) (fun _ _ _ h => h) (Or.inl ⟨by rfl, ?_⟩) ?_ ?_
               rotate_left
               ·intro w'
                go_simp
                with_reducible rfl
               rotate_left
               ·simp only [Act.put, List.setIfInBounds_toArray, List.set_cons_zero, List.set_cons_succ, i64_w, i32_w]
                rfl
               refine pure_ (i := 2) (N := some 69) (v := ?_) (a' := ?_) #[true, true, true, false, false, false, false, false, false, false, false, false, false, false, false, false, false, false, false] rfl rfl (any_of HT_.out (by kernel_rfl)) (fun _ _ _ h => h) (Or.inl ⟨by rfl, ?_⟩) ?_ ?_
               rotate_left
               ·intro w'
                go_simp
                with_reducible rfl
               rotate_left
               ·simp only [Act.put, List.setIfInBounds_toArray, List.set_cons_zero, List.set_cons_succ, i64_w, i32_w]
                rfl
               refine pure_ (i := 3) (N := some 70) (v := ?_) (a' := ?_) #[true, true, true, true, false, false, false, false, false, false, false, false, false, false, false, false, false, false, false] rfl rfl (any_of HT_.out (by kernel_rfl)) (fun _ _ _ h => h) (Or.inl ⟨by rfl, ?_⟩) ?_ ?_
               rotate_left
               ·intro w'
                go_simp
                with_reducible rfl
               rotate_left
               ·simp only [Act.put, List.setIfInBounds_toArray, List.set_cons_zero, List.set_cons_succ, i64_w, i32_w]
                rfl
               refine pure_ (i := 4) (N := some 71) (v := ?_) (a' := ?_) #[true, true, true, true, true, false, false, false, false, false, false, false, false, false, false, false, false, false, false] rfl rfl (any_of HT_.out (by kernel_rfl)) (fun _ _ _ h => h) (Or.inl ⟨by rfl, ?_⟩) ?_ ?_
               rotate_left
               ·intro w'
                go_simp
                with_reducible rfl
               rotate_left
               ·simp only [Act.put, List.setIfInBounds_toArray, List.set_cons_zero, List.set_cons_succ, i64_w, i32_w]
                rfl
               refine pure_ (i := 5) (N := some 72) (v := ?_) (a' := ?_) #[true, true, true, true, true, true, false, false, false, false, false, false, false, false, false, false, false, false, false] rfl rfl (any_of HT_.out (by kernel_rfl)) (fun _ _ _ h => h) (Or.inl ⟨by rfl, ?_⟩) ?_ ?_
               rotate_left
               ·intro w'
                go_simp
                with_reducible rfl
               rotate_left
               ·simp only [Act.put, List.setIfInBounds_toArray, List.set_cons_zero, List.set_cons_succ, i64_w, i32_w]
                rfl
               refine pure_ (i := 7) (N := some 74) (v := ?_) (a' := ?_) #[true, true, true, true, true, true, false, true, false, false, false, false, false, false, false, false, false, false, false] rfl rfl (any_of HT_.out (by kernel_rfl)) (fun _ _ _ h => h) (Or.inl ⟨by rfl, ?_⟩) ?_ ?_
               rotate_left
               ·intro w'
                go_simp
                with_reducible rfl
               rotate_left
               ·simp only [Act.put, List.setIfInBounds_toArray, List.set_cons_zero, List.set_cons_succ, i64_w, i32_w]
                rfl
               refine pure_ (i := 8) (N := some 75) (v := ?_) (a' := ?_) #[true, true, true, true, true, true, false, true, true, false, false, false, false, false, false, false, false, false, false] rfl rfl (any_of HT_.out (by kernel_rfl)) (fun _ _ _ h => h) (Or.inl ⟨by rfl, ?_⟩) ?_ ?_
               rotate_left
               ·intro w'
                go_simp
                with_reducible rfl
               rotate_left
               ·simp only [Act.put, List.setIfInBounds_toArray, List.set_cons_zero, List.set_cons_succ, i64_w, i32_w]
                rfl
               refine pure_ (i := 10) (N := some 77) (v := ?_) (a' := ?_) #[true, true, true, true, true, true, false, true, true, false, true, false, false, false, false, false, false, false, false] rfl rfl (any_of HT_.out (by kernel_rfl)) (fun _ _ _ h => h) (Or.inl ⟨by rfl, ?_⟩) ?_ ?_
               rotate_left
               ·intro w'
                go_simp
                with_reducible rfl
               rotate_left
               ·simp only [Act.put, List.setIfInBounds_toArray, List.set_cons_zero, List.set_cons_succ, i64_w, i32_w]
                rfl
               refine pure_ (i := 11) (N := some 78) (v := ?_) (a' := ?_) #[true, true, true, true, true, true, false, true, true, false, true, true, false, false, false, false, false, false, false] rfl rfl (any_of HT_.out (by kernel_rfl)) (fun _ _ _ h => h) (Or.inl ⟨by rfl, ?_⟩) ?_ ?_
               rotate_left
               ·intro w'
                go_simp
                with_reducible rfl
               rotate_left
               ·simp only [Act.put, List.setIfInBounds_toArray, List.set_cons_zero, List.set_cons_succ, i64_w, i32_w]
                rfl
               refine pure_ (i := 12) (N := some 79) (v := ?_) (a' := ?_) #[true, true, true, true, true, true, false, true, true, false, true, true, true, false, false, false, false, false, false] rfl rfl (any_of HT_.out (by kernel_rfl)) (fun _ _ _ h => h) (Or.inl ⟨by rfl, ?_⟩) ?_ ?_
               rotate_left
               ·intro w'
                go_simp
                with_reducible rfl
               rotate_left
               ·simp only [Act.put, List.setIfInBounds_toArray, List.set_cons_zero, List.set_cons_succ, i64_w, i32_w]
                rfl
               refine pure_ (i := 13) (N := some 80) (v := ?_) (a' := ?_) #[true, true, true, true, true, true, false, true, true, false, true, true, true, true, false, false, false, false, false] rfl rfl (any_of HT_.out (by kernel_rfl)) (fun _ _ _ h => h) (Or.inl ⟨by rfl, ?_⟩) ?_ ?_
               rotate_left
               ·intro w'
                go_simp
                with_reducible rfl
               rotate_left
               ·simp only [Act.put, List.setIfInBounds_toArray, List.set_cons_zero, List.set_cons_succ, i64_w, i32_w]
                rfl
               refine take_ (i := 6) (N := some 73) (v := ?_) (a' := ?_) #[true, true, true, true, true, true, true, true, true, false, true, true, true, true, false, false, false, false, false] rfl rfl (take_ofW HT_.out HW_.out (by kernel_rfl)) (fun _ _ _ h => h) (Or.inl ⟨by rfl, ?_⟩) hHeld ?_ ?_
               rotate_left
               ·rintro w' ⟨s0, s1, s2, s3, s4, s5⟩
                go_simp
                with_reducible rfl
               rotate_left
               ·simp only [Act.put, List.setIfInBounds_toArray, List.set_cons_zero, List.set_cons_succ, i64_w, i32_w]
                rfl
               refine pure_ (i := 9) (N := some 76) (v := ?_) (a' := ?_) #[true, true, true, true, true, true, true, true, true, true, true, true, true, true, false, false, false, false, false] rfl rfl (any_of HT_.out (by kernel_rfl)) (fun _ _ _ h => h) (Or.inl ⟨by rfl, ?_⟩) ?_ ?_
               rotate_left
               ·intro w'
                go_simp
                with_reducible rfl
               rotate_left
               ·simp only [Act.put, List.setIfInBounds_toArray, List.set_cons_zero, List.set_cons_succ, i64_w, i32_w]
                rfl
               refine take_ (i := 14) (N := some 81) (v := ?_) (a' := ?_) #[true, true, true, true, true, true, true, true, true, true, true, true, true, true, true, false, false, false, false] rfl rfl (take_ofW HT_.out HW_.out (by kernel_rfl)) (fun _ _ _ h => h) (Or.inl ⟨by rfl, ?_⟩) hHeld ?_ ?_
               rotate_left
               ·rintro w' ⟨s0, s1, s2, s3, s4, s5⟩
                go_simp
                with_reducible rfl
               rotate_left
               ·simp only [Act.put, List.setIfInBounds_toArray, List.set_cons_zero, List.set_cons_succ, i64_w, i32_w]
                rfl
               refine pure_ (i := 15) (N := some 82) (v := ?_) (a' := ?_) #[true, true, true, true, true, true, true, true, true, true, true, true, true, true, true, true, false, false, false] rfl rfl (any_of HT_.out (by kernel_rfl)) (fun _ _ _ h => h) (Or.inl ⟨by rfl, ?_⟩) ?_ ?_
               rotate_left
               ·intro w'
                go_simp
                with_reducible rfl
               rotate_left
               ·simp only [Act.put, List.setIfInBounds_toArray, List.set_cons_zero, List.set_cons_succ, i64_w, i32_w]
                rfl
               refine pure_ (i := 16) (N := some 83) (v := ?_) (a' := ?_) #[true, true, true, true, true, true, true, true, true, true, true, true, true, true, true, true, true, false, false] rfl rfl (any_of HT_.out (by kernel_rfl)) (fun _ _ _ h => h) (Or.inl ⟨by rfl, ?_⟩) ?_ ?_
               rotate_left
               ·intro w'
                go_simp
                with_reducible rfl
               rotate_left
               ·simp only [Act.put, List.setIfInBounds_toArray, List.set_cons_zero, List.set_cons_succ, i64_w, i32_w]
                rfl
               refine pure_ (i := 17) (N := some 84) (v := ?_) (a' := ?_) #[true, true, true, true, true, true, true, true, true, true, true, true, true, true, true, true, true, true, false] rfl rfl (any_of HT_.out (by kernel_rfl)) (fun _ _ _ h => h) (Or.inl ⟨by rfl, ?_⟩) ?_ ?_
               rotate_left
               ·intro w'
                go_simp
                with_reducible rfl
               rotate_left
               ·simp only [Act.put, List.setIfInBounds_toArray, List.set_cons_zero, List.set_cons_succ, i64_w, i32_w]
                rfl
               refine last_ (i := 18) (N := none) #[true, true, true, true, true, true, true, true, true, true, true, true, true, true, true, true, true, true, true] rfl rfl (one_of HT_.out (by kernel_rfl)) (by decide) (fun K hK => ?_)
               refine skip_ (w1 := ?_) (by rfl) rfl ?_ ?_
               rotate_left
               ·go_simp
                rfl
               refine hK.out _ _ ?_
               clear hK K
               refine done_ (done_of HT_.out (by kernel_rfl)) ?_
               obtain ⟨Ao74, co74, eo74⟩ := Kd.R_slice HO181.out
               subst eo74
               try go_wp2_with (first | ((with_reducible refine gate_callee (f := 34) rfl ?_); refine goesL_ (some 86) rfl rfl Tryz.func34 (by kernel_rfl) rfl #[.slice Ao74 y179.length co74] rfl (by (try simp only [List.map_toArray, List.map_cons, List.map_nil]); (rfl)) ?_; (with_reducible refine (demand_Fits.calls kj8 _ _ y179 true _ ?side1 ?side2 A37.out).mono ?_); (case side1 => refine (Kd.R_reads' (e := 31) (base := w.heap.size) (ok := fun k_ => (some k_ ≠ (.slice Ao60 t162.length co60 : Value).ownBlock ∧ some k_ ≠ (.slice (some ⟨go33, 0, none⟩) t182.length co67 : Value).ownBlock)) (n := y179.length) (c := co74) ?_).2.2; exact (by exact (Kd.R_mono (Kd.R_far (p := ⟨go33, ((ji23) : Int).toNat * 3 + 1, none⟩) (Kd.R_mono HO181.out (fun k_ hk => (⟨hk, fun e_ => hk.2 (by rw [e_]; rfl)⟩ : _ ∧ k_ ≠ go33))) (fun _ hk => hk.2) (.int .i64 ji35)) (fun _ h_ => h_.1)))); (case side2 => exact (Kd.R_reads' HO181.out).2.1); rintro e w75 ⟨rfl, hb⟩; refine ⟨_, rfl, ?_⟩; have n0_ := Aside0.mk (Kd.R_below (by exact (Kd.R_mono (Kd.R_far (p := ⟨go33, ((ji23) : Int).toNat * 3 + 1, none⟩) (Kd.R_mono HO_0.out (fun k_ hk => (⟨hk, fun e_ => hk.2 (by rw [e_]; rfl)⟩ : _ ∧ k_ ≠ go33))) (fun _ hk => hk.2) (.int .i64 ji35)) (fun _ h_ => h_.1))) hb); have n1_ := Aside0.mk (Kd.V_below (by exact (Kd.V_mono (Kd.V_far (p := ⟨go33, ((ji23) : Int).toNat * 3 + 1, none⟩) (Kd.V_mono HO170.out (fun k_ hk => (⟨hk, fun e_ => hk.2 (by rw [e_]; rfl)⟩ : _ ∧ k_ ≠ go33))) (fun _ hk => hk.2) (.int .i64 ji35)) (fun _ h_ => h_.1))) hb); have n2_ := Aside0.mk (Kd.V_below (by exact (Kd.V_mono (Kd.V_far (p := ⟨go33, ((ji23) : Int).toNat * 3 + 1, none⟩) (Kd.V_mono HO178.out (fun k_ hk => (⟨hk, fun e_ => hk.2 (by rw [e_]; rfl)⟩ : _ ∧ k_ ≠ go33))) (fun _ hk => hk.2) (.int .i64 ji35)) (fun _ h_ => h_.1))) hb); have n3_ := Aside0.mk (Kd.R_below (by exact (Kd.R_mono (Kd.R_far (p := ⟨go33, ((ji23) : Int).toNat * 3 + 1, none⟩) (Kd.R_mono HO181.out (fun k_ hk => (⟨hk, fun e_ => hk.2 (by rw [e_]; rfl)⟩ : _ ∧ k_ ≠ go33))) (fun _ hk => hk.2) (.int .i64 ji35)) (fun _ h_ => h_.1))) hb); have n4_ := Aside0.mk (Kd.R_below (by exact HQ73.out) hb); have n5_ := Aside0.mk (below_step (by repeat ((with_reducible first | exact HB.out | refine below_set ?_ GB33.out))) hb); clear HO_0; clear HO170; clear HO178; clear HO181; clear HO184; clear HB; have HO_0 := n0_; have HO170 := n1_; have HO178 := n2_; have HO181 := n3_; have HO184 := n4_; have HB := n5_; clear n0_ n1_ n2_ n3_ n4_ n5_; (try clear hb); (try clear hb2); (try clear hk); (try clear hi); have p193 : 0 ≤ ((ji23) : Int) := of_decide_eq_true (by (with_reducible assumption)); have q193 : (ji23) < (y191.length : Int) := (by have h_ : ((ji23) : Int) < ((t182.length : Int) : Int) := of_decide_eq_true (by (with_reducible assumption)); (have e_ := (Kd.R_reads' HO184.out).1; omega)); have ql193 : (((ji23) : Int) < ((t182.length : Int) : Int)) = True := eq_true (of_decide_eq_true (by (with_reducible assumption))); obtain ⟨ad193, e193, hx193_0, hx193_1, hx193_2⟩ := at_T31 (Kd.R_reads' HO184.out).2.2 (ji23) p193 q193; obtain rfl : (⟨go33, 0, none⟩ : Addr) = ad193 := (by injection e193); ((simp only [add_at] at hx193_0)); (try rw [Nat.zero_add] at hx193_0); ((simp only [add_at] at hx193_1)); (try rw [Nat.zero_add] at hx193_1); ((simp only [add_at] at hx193_2)); (try rw [Nat.zero_add] at hx193_2); replace p193 := eq_true p193; replace q193 := eq_true q193) | (go_at_call 35; (with_reducible refine (hortatorref7_Load.calls ((rd_T31 y191 (ji23)).f0) ((rd_T31 y191 (ji23)).f1) ((rd_T31 y191 (ji23)).f2) false _ A39.out).mono ?_); rintro e w76 ⟨rfl, hb⟩; have n0_ := Aside0.mk (Kd.R_below (by exact HO_0.out) hb); have n1_ := Aside0.mk (Kd.V_below (by exact HO170.out) hb); have n2_ := Aside0.mk (Kd.V_below (by exact HO178.out) hb); have n3_ := Aside0.mk (Kd.R_below (by exact HO181.out) hb); have n4_ := Aside0.mk (Kd.R_below (by exact HO184.out) hb); have n5_ := Aside0.mk (below_step (by repeat ((with_reducible (exact HB.out)))) hb); clear HO_0; clear HO170; clear HO178; clear HO181; clear HO184; clear HB; have HO_0 := n0_; have HO170 := n1_; have HO178 := n2_; have HO181 := n3_; have HO184 := n4_; have HB := n5_; clear n0_ n1_ n2_ n3_ n4_ n5_; (try clear hb); (try clear hb2); (try clear hk); (try clear hi)))
               go_ret
               exact ⟨by (rfl), by repeat ((with_reducible (exact HB.out)))⟩
             ·replace c38 := Bool.eq_false_iff.mpr c38
              subst c38
              have H1 : (none) = some r := by rw [if_neg (show ¬ (false = true) by decide)] at H; exact H
              clear H
              have H := H1
              clear H1
              exact absurd H (by simp)
            ·rw [if_neg c32] at H
             exact absurd H (by simp)
           ·rw [if_neg c30] at H
            exact absurd H (by simp)
          ·rw [if_neg c29] at H
           exact absurd H (by simp)
         ·rw [if_neg c28] at H
          exact absurd H (by simp)
        ·rw [if_neg c26] at H
         exact absurd H (by simp)
       ·rw [if_neg c25] at H
        exact absurd H (by simp)
      ·rw [if_neg c24] at H
       exact absurd H (by simp)
 ·replace c7 := Bool.eq_false_iff.mpr c7
  subst c7
  have H1 : (none) = some r := by rw [if_neg (show ¬ (false = true) by decide)] at H; exact H
  clear H
  have H := H1
  clear H1
  exact absurd H (by simp)

end Go.Proofs.YtddepomgaeadpaaGreatDoor.PAll
