-- Written by a program of this session (wip/pp.py) over the kit's print, with hand-proved contracts beside it.
import Derived.Test.YtddepomgaeadpaaGreatDoorWz
import Derived.Test.YtddepomgaeadpaaGreatDoorPAllx0
import Derived.Test.YtddepomgaeadpaaGreatDoorWs2
import Derived.Test.YtddepomgaeadpaaGreatDoorWr
import Derived.Test.YtddepomgaeadpaaGreatDoorPAllx2
import Derived.Test.YtddepomgaeadpaaGreatDoorPAllx4
namespace Go.Proofs.YtddepomgaeadpaaGreatDoor.PAll
open Go.Shelf Go.Lib Go.RowKit Go.Proofs.YtddepomgaeadpaaGreatDoorW.PrintWords Go.Proofs.YtddepomgaeadpaaGreatDoorW.PrintLast Go.Proofs.YtddepomgaeadpaaGreatDoorW.PrintMore
attribute [local go_sem] max2_int min2_int max_two min_two max_three min_three max_four min_four   -- for this text's walks alone
set_option linter.unusedVariables false
set_option linter.unusedSimpArgs false

/-! ### hortatorlaw9_DemandRun: function 7 -/
mutual
def hortatorlaw9_DemandRun.l0 : Nat → List (S31) → List Int → List Int → List Int → List Int → Int → Int → Option (Bool)
 | 0, _, _, _, _, _, _, _ => none
 | k + 1, x0, x1, x6, x7, x8, x9, x10 => if x10 < 600 then (hortatorlaw9_DemandRun.l1 k x0 x1 x6 x7 x8 x9 x10 (-1) 0) else (some true)
def hortatorlaw9_DemandRun.l1 : Nat → List (S31) → List Int → List Int → List Int → List Int → Int → Int → Int → Int → Option (Bool)
 | 0, _, _, _, _, _, _, _, _, _ => none
 | k + 1, x0, x1, x6, x7, x8, x9, x10, x11, x12 => if x12 < (x0.length : Int) then (if 0 ≤ x12 then (if x12 < (x7.length : Int) then (if (rd x7 x12) > 0 then (if x12 < (x8.length : Int) then (hortatorlaw9_DemandRun.j2 k x0 x1 x6 x7 x8 x9 x10 x11 x12 (decide ((rd x8 x12) ≤ x10))) else (none)) else (hortatorlaw9_DemandRun.j2 k x0 x1 x6 x7 x8 x9 x10 x11 x12 false)) else (none)) else (none)) else (if x11 ≥ 0 then (if 0 ≤ x11 then (if x11 < (x7.length : Int) then (hortatorlaw9_DemandRun.l0 k x0 x1 x6 (x7.set (x11 : Int).toNat (wrap64 ((rd x7 x11) - 1))) x8 x9 (wrap64 (x10 + 1))) else (none)) else (none)) else (hortatorlaw9_DemandRun.l0 k x0 x1 x6 x7 x8 x9 (wrap64 (x10 + 1))))
def hortatorlaw9_DemandRun.j2 : Nat → List (S31) → List Int → List Int → List Int → List Int → Int → Int → Int → Int → Bool → Option (Bool)
 | 0, _, _, _, _, _, _, _, _, _, _ => none
 | k + 1, x0, x1, x6, x7, x8, x9, x10, x11, x12, x53 => if x53 = true then (none) else (if 0 ≤ x12 then (if x12 < (x7.length : Int) then (if (rd x7 x12) = 0 then (if x12 < (x6.length : Int) then (hortatorlaw9_DemandRun.j3 k x0 x1 x6 x7 x8 x9 x10 x11 x12 (decide ((rd x6 x12) ≤ x10))) else (none)) else (hortatorlaw9_DemandRun.j3 k x0 x1 x6 x7 x8 x9 x10 x11 x12 false)) else (none)) else (none))
def hortatorlaw9_DemandRun.j3 : Nat → List (S31) → List Int → List Int → List Int → List Int → Int → Int → Int → Int → Bool → Option (Bool)
 | 0, _, _, _, _, _, _, _, _, _, _ => none
 | k + 1, x0, x1, x6, x7, x8, x9, x10, x11, x12, x66 => if x66 = true then (if x9 < (x1.length : Int) then (if 0 ≤ x9 then (if 0 ≤ x12 then (if x12 < (x0.length : Int) then (if x12 < (x7.length : Int) then ((some (x7.set (x12 : Int).toNat ((rd_T31 x0 x12).f0) : List Int)).bind fun y183 => (if x12 < (x8.length : Int) then ((some (x8.set (x12 : Int).toNat (wrap64 (x10 + ((rd_T31 x0 x12).f1))) : List Int)).bind fun y184 => (if x12 < (x6.length : Int) then ((some (x6.set (x12 : Int).toNat (wrap64 ((wrap64 (x10 + ((rd_T31 x0 x12).f2))) + (Go.bits .and .i64 (rd x1 x9) 15))) : List Int)).bind fun y185 => (if (rd y183 x12) > 0 then (if x11 < 0 then (hortatorlaw9_DemandRun.l1 k x0 x1 y185 y183 y184 (wrap64 (x9 + 1)) x10 x12 (wrap64 (x12 + 1))) else (if 0 ≤ x11 then (if x11 < (x8.length : Int) then (if (rd y184 x12) < (rd y184 x11) then (hortatorlaw9_DemandRun.l1 k x0 x1 y185 y183 y184 (wrap64 (x9 + 1)) x10 x12 (wrap64 (x12 + 1))) else (hortatorlaw9_DemandRun.l1 k x0 x1 y185 y183 y184 (wrap64 (x9 + 1)) x10 x11 (wrap64 (x12 + 1)))) else (none)) else (none))) else (hortatorlaw9_DemandRun.l1 k x0 x1 y185 y183 y184 (wrap64 (x9 + 1)) x10 x11 (wrap64 (x12 + 1))))) else (none))) else (none))) else (none)) else (none)) else (none)) else (none)) else (if 0 ≤ x12 then (if x12 < (x0.length : Int) then (if x12 < (x7.length : Int) then ((some (x7.set (x12 : Int).toNat ((rd_T31 x0 x12).f0) : List Int)).bind fun y192 => (if x12 < (x8.length : Int) then ((some (x8.set (x12 : Int).toNat (wrap64 (x10 + ((rd_T31 x0 x12).f1))) : List Int)).bind fun y193 => (if x12 < (x6.length : Int) then ((some (x6.set (x12 : Int).toNat (wrap64 (wrap64 (x10 + ((rd_T31 x0 x12).f2)))) : List Int)).bind fun y194 => (if (rd y192 x12) > 0 then (if x11 < 0 then (hortatorlaw9_DemandRun.l1 k x0 x1 y194 y192 y193 (wrap64 (x9 + 1)) x10 x12 (wrap64 (x12 + 1))) else (if 0 ≤ x11 then (if x11 < (x8.length : Int) then (if (rd y193 x12) < (rd y193 x11) then (hortatorlaw9_DemandRun.l1 k x0 x1 y194 y192 y193 (wrap64 (x9 + 1)) x10 x12 (wrap64 (x12 + 1))) else (hortatorlaw9_DemandRun.l1 k x0 x1 y194 y192 y193 (wrap64 (x9 + 1)) x10 x11 (wrap64 (x12 + 1)))) else (none)) else (none))) else (hortatorlaw9_DemandRun.l1 k x0 x1 y194 y192 y193 (wrap64 (x9 + 1)) x10 x11 (wrap64 (x12 + 1))))) else (none))) else (none))) else (none)) else (none)) else (none))) else (if 0 ≤ x12 then (if x12 < (x7.length : Int) then (if (rd x7 x12) > 0 then (if x11 < 0 then (hortatorlaw9_DemandRun.l1 k x0 x1 x6 x7 x8 x9 x10 x12 (wrap64 (x12 + 1))) else (if x12 < (x8.length : Int) then (if 0 ≤ x11 then (if x11 < (x8.length : Int) then (if (rd x8 x12) < (rd x8 x11) then (hortatorlaw9_DemandRun.l1 k x0 x1 x6 x7 x8 x9 x10 x12 (wrap64 (x12 + 1))) else (hortatorlaw9_DemandRun.l1 k x0 x1 x6 x7 x8 x9 x10 x11 (wrap64 (x12 + 1)))) else (none)) else (none)) else (none))) else (hortatorlaw9_DemandRun.l1 k x0 x1 x6 x7 x8 x9 x10 x11 (wrap64 (x12 + 1)))) else (none)) else (none))
end
def hortatorlaw9_DemandRun.f (k : Nat) (l0 : List (S31)) (l1 : List Int) : Option (Bool) := (hortatorlaw9_begun.f k).bind fun t159 => (if t159 = true then ((hortatorlaw9_Loads.f l0).bind fun t160 => ((demand_Fits.f k t160).bind fun t163 => (if t163 = true then (if 0 ≤ (t160.length : Int) then (if ((t160.length : Int) : Int).toNat ≤ 35184372088832 then (hortatorlaw9_DemandRun.l0 k t160 l1 (List.replicate ((t160.length : Int) : Int).toNat 0) (List.replicate ((t160.length : Int) : Int).toNat 0) (List.replicate ((t160.length : Int) : Int).toNat 0) 0 0) else (none)) else (none)) else (some true)))) else (none))
def hortatorlaw9_DemandRun.T7 : Bool × List (List Nat × List Nat) := (true, [([], []), ([0], [0]), ([1, 1], [1]), ([], []), ([3], [3]), ([4, 4], [4]), ([], []), ([6], [6]), ([7, 7], [7]), ([2, 0, 1, 2], [2]), ([5, 9, 0, 1, 2, 3, 4, 5, 9], [5]), ([8, 10, 0, 1, 2, 3, 4, 5, 6, 7, 8, 9, 10], [8])])
def hortatorlaw9_DemandRun.B7 : List Nat := [0, 1, 3, 0, 8, 24, 0, 64, 192, 7, 575, 2047]
theorem hortatorlaw9_DemandRun.tab7 : rtab .any (opsOf Tryz.f7 7) = hortatorlaw9_DemandRun.T7 := by kernel_rfl
theorem hortatorlaw9_DemandRun.bits7 : waitsOk hortatorlaw9_DemandRun.T7.2 hortatorlaw9_DemandRun.B7 = true := by kernel_rfl
def hortatorlaw9_DemandRun.T23 : Bool × List (List Nat × List Nat) := (true, [([], []), ([], []), ([], []), ([], []), ([], []), ([], []), ([], []), ([], []), ([6, 7], [6, 7]), ([8], [8]), ([9], [9]), ([], []), ([], []), ([], []), ([12, 13], [12, 13]), ([14], [14]), ([15], [15]), ([11, 16], [11, 16]), ([], []), ([], []), ([], []), ([19, 20], [19, 20]), ([21], [21]), ([22], [22]), ([18, 23], [18, 23]), ([], []), ([24, 25], [24, 25]), ([0, 1, 0, 1, 6, 7, 8, 9, 10, 16, 23], [0, 1]), ([27, 10, 0, 1, 6, 7, 8, 9, 10, 16, 23], [10, 27]), ([2, 3, 0, 1, 2, 3, 6, 7, 8, 9, 10, 11, 12, 13, 14, 15, 16, 17, 23, 27, 28], [2, 3]), ([29, 17, 28, 0, 1, 2, 3, 6, 7, 8, 9, 10, 11, 12, 13, 14, 15, 16, 17, 23, 27, 28], [17, 29]), ([4, 5, 0, 1, 2, 3, 4, 5, 6, 7, 8, 9, 10, 11, 12, 13, 14, 15, 16, 17, 18, 19, 20, 21, 22, 23, 24, 25, 26, 27, 28, 29, 30], [4, 5]), ([31, 26, 30, 0, 1, 2, 3, 4, 5, 6, 7, 8, 9, 10, 11, 12, 13, 14, 15, 16, 17, 18, 19, 20, 21, 22, 23, 24, 25, 26, 27, 28, 29, 30], [26, 31])])
def hortatorlaw9_DemandRun.B23 : List Nat := [0, 0, 0, 0, 0, 0, 0, 0, 192, 448, 960, 0, 0, 0, 12288, 28672, 61440, 129024, 0, 0, 0, 1572864, 3670016, 7864320, 16515072, 0, 66846720, 16381891, 150599619, 419168207, 956039119, 2147483647, 4294967295]
theorem hortatorlaw9_DemandRun.tab23 : rtab .any (opsOf Tryz.f7 23) = hortatorlaw9_DemandRun.T23 := by kernel_rfl
theorem hortatorlaw9_DemandRun.bits23 : waitsOk hortatorlaw9_DemandRun.T23.2 hortatorlaw9_DemandRun.B23 = true := by kernel_rfl
def hortatorlaw9_DemandRun.T24 : Bool × List (List Nat × List Nat) := (true, [([], []), ([], []), ([0, 1], [0, 1]), ([2], [2]), ([3], [3]), ([4], [4]), ([5], [5]), ([6, 5], [5, 6]), ([7, 5, 5], [5, 7]), ([8], [8]), ([8], [8]), ([9, 10, 8], [8, 9, 10]), ([11, 8], [8, 11]), ([8], [8]), ([8], [8]), ([13, 14, 8], [8, 13, 14]), ([15, 8], [8, 15]), ([12, 16, 8], [8, 12, 16]), ([8, 17, 5], [5, 8, 17]), ([5, 18], [5, 18])])
def hortatorlaw9_DemandRun.B24 : List Nat := [0, 0, 3, 7, 15, 31, 63, 127, 255, 511, 511, 2047, 4095, 511, 511, 25087, 57855, 131071, 262143, 524287]
theorem hortatorlaw9_DemandRun.tab24 : rtab .any (opsOf Tryz.f7 24) = hortatorlaw9_DemandRun.T24 := by kernel_rfl
theorem hortatorlaw9_DemandRun.bits24 : waitsOk hortatorlaw9_DemandRun.T24.2 hortatorlaw9_DemandRun.B24 = true := by kernel_rfl
set_option maxHeartbeats 8000000 in
set_option maxRecDepth 100000 in
theorem hortatorlaw9_DemandRun.calls (k : Nat) (A0 : Option Addr) (c0 : Nat) (l0 : List (S31)) (A1 : Option Addr) (c1 : Nat) (l1 : List Int) (r : Bool) (w : World) (hr0 : Kd.C k31 w A0 l0.length l0) (hc0 : l0.length ≤ c0) (hr1 : Kd.C (Kd.int .i64) w A1 l1.length l1) (hc1 : l1.length ≤ c1) (h : hortatorlaw9_DemandRun.f k l0 l1 = some r) :
  Calls Tryz.prog 7 #[.slice A0 l0.length c0, .slice A1 l1.length c1] w fun e w' => e = .returned (.bool r) ∧ Below w.heap.size w w' := by
 have HR0 := Aside0.mk hr0
 have HC0 := Aside0.mk hc0
 clear hr0 hc0
 have HR1 := Aside0.mk hr1
 have HC1 := Aside0.mk hc1
 clear hr1 hc1
 have HB := Aside0.mk (Below.refl w.heap.size w)
 have H : ((hortatorlaw9_begun.f k).bind fun t159 => (if t159 = true then ((hortatorlaw9_Loads.f l0).bind fun t160 => ((demand_Fits.f k t160).bind fun t163 => (if t163 = true then (if 0 ≤ (t160.length : Int) then (if ((t160.length : Int) : Int).toNat ≤ 35184372088832 then (hortatorlaw9_DemandRun.l0 k t160 l1 (List.replicate ((t160.length : Int) : Int).toNat 0) (List.replicate ((t160.length : Int) : Int).toNat 0) (List.replicate ((t160.length : Int) : Int).toNat 0) 0 0) else (none)) else (none)) else (some true)))) else (none))) = some r := h
 clear h
 replace H := Option.bind_eq_some_iff.mp H
 obtain ⟨t159, A30, H⟩ := H
 have A3 := Aside0.mk A30
 clear A30
 by_cases c4 : t159 = true
 ·subst c4
  have H1 : ((hortatorlaw9_Loads.f l0).bind fun t160 => ((demand_Fits.f k t160).bind fun t163 => (if t163 = true then (if 0 ≤ (t160.length : Int) then (if ((t160.length : Int) : Int).toNat ≤ 35184372088832 then (hortatorlaw9_DemandRun.l0 k t160 l1 (List.replicate ((t160.length : Int) : Int).toNat 0) (List.replicate ((t160.length : Int) : Int).toNat 0) (List.replicate ((t160.length : Int) : Int).toNat 0) 0 0) else (none)) else (none)) else (some true)))) = some r := by rw [if_pos rfl] at H; exact H
  clear H
  have H := H1
  clear H1
  replace H := Option.bind_eq_some_iff.mp H
  obtain ⟨t160, A50, H⟩ := H
  have A5 := Aside0.mk A50
  clear A50
  replace H := Option.bind_eq_some_iff.mp H
  obtain ⟨t163, A60, H⟩ := H
  have A6 := Aside0.mk A60
  clear A60
  by_cases c7 : t163 = true
  ·subst c7
   have H1 : (if 0 ≤ (t160.length : Int) then (if ((t160.length : Int) : Int).toNat ≤ 35184372088832 then (hortatorlaw9_DemandRun.l0 k t160 l1 (List.replicate ((t160.length : Int) : Int).toNat 0) (List.replicate ((t160.length : Int) : Int).toNat 0) (List.replicate ((t160.length : Int) : Int).toNat 0) 0 0) else (none)) else (none)) = some r := by rw [if_pos rfl] at H; exact H
   clear H
   have H := H1
   clear H1
   by_cases c8 : 0 ≤ (t160.length : Int)
   ·rw [if_pos c8] at H
    have c8b0 := eq_true c8
    have c8b1 : decide (0 ≤ (t160.length : Int)) = true := decide_eq_true c8
    clear c8
    by_cases c9 : ((t160.length : Int) : Int).toNat ≤ 35184372088832
    ·rw [if_pos c9] at H
     have c9b0 := eq_true c9
     have c9b1 : decide (((t160.length : Int) : Int).toNat ≤ 35184372088832) = true := decide_eq_true c9
     clear c9
     obtain ⟨y164, hy164⟩ : ∃ y_ : List Int, y_ = (List.replicate ((t160.length : Int) : Int).toNat 0) := ⟨_, rfl⟩
     replace H : (hortatorlaw9_DemandRun.l0 k t160 l1 y164 (List.replicate ((t160.length : Int) : Int).toNat 0) (List.replicate ((t160.length : Int) : Int).toNat 0) 0 0) = some r := by (rw [hy164]; with_reducible exact H)
     have Ny164 := Aside0.mk hy164
     clear hy164
     obtain ⟨y167, hy167⟩ : ∃ y_ : List Int, y_ = (List.replicate ((t160.length : Int) : Int).toNat 0) := ⟨_, rfl⟩
     replace H : (hortatorlaw9_DemandRun.l0 k t160 l1 y164 y167 (List.replicate ((t160.length : Int) : Int).toNat 0) 0 0) = some r := by (rw [hy167]; with_reducible exact H)
     have Ny167 := Aside0.mk hy167
     clear hy167
     obtain ⟨y170, hy170⟩ : ∃ y_ : List Int, y_ = (List.replicate ((t160.length : Int) : Int).toNat 0) := ⟨_, rfl⟩
     replace H : (hortatorlaw9_DemandRun.l0 k t160 l1 y164 y167 y170 0 0) = some r := by (rw [hy170]; with_reducible exact H)
     have Ny170 := Aside0.mk hy170
     clear hy170
     have H' := Aside0.mk H
     clear H
     go_enter Tryz.func7, Tryz.ntmps7
     try go_wp2_with (first | ((with_reducible refine gate_callee (f := 23) rfl ?_); refine goesL_ (some 14) rfl rfl Tryz.func23 (by kernel_rfl) rfl #[] rfl (by (try simp only [List.map_toArray, List.map_cons, List.map_nil]); (done)) ?_; (with_reducible refine (hortatorlaw9_begun.calls k  true _ A3.out).mono ?_); rintro e w10 ⟨rfl, hb⟩; refine ⟨_, rfl, ?_⟩; replace HB := Aside0.mk (below_step HB.out hb); (try clear hb); (try clear hb2); (try clear hk); (try clear hi)) | ((with_reducible refine gate_callee (f := 24) rfl ?_); refine goesL_ (some 18) rfl rfl Tryz.func24 (by kernel_rfl) rfl #[.slice A0 l0.length c0] rfl (by (try simp only [List.map_toArray, List.map_cons, List.map_nil]); (rfl)) ?_; (with_reducible refine (hortatorlaw9_Loads.calls _ _ l0 t160 _ ?side1 ?side2 A5.out).mono ?_); (case side1 => repeat ((exact (Kd.C_below HR0.out HB.out)))); (case side2 => exact HC0.out); rintro e w11 ⟨v161, rfl, ho0, hb⟩; refine ⟨_, rfl, ?_⟩; have HO162 := Aside0.mk (Kd.R_lower ho0 (below_size HB.out)); replace HB := Aside0.mk (below_step HB.out hb); (try clear hb); (try clear hb2); (try clear hk); (try clear hi); (try clear ho0); obtain ⟨Ao12, co12, eo12⟩ := Kd.R_slice HO162.out; subst eo12) | ((with_reducible refine gate_callee (f := 34) rfl ?_); refine goesL_ (some 20) rfl rfl Tryz.func34 (by kernel_rfl) rfl #[.slice Ao12 t160.length co12] rfl (by (try simp only [List.map_toArray, List.map_cons, List.map_nil]); (rfl)) ?_; (with_reducible refine (demand_Fits.calls k _ _ t160 true _ ?side1 ?side2 A6.out).mono ?_); (case side1 => repeat ((exact (Kd.R_reads' HO162.out).2.2))); (case side2 => exact (Kd.R_reads' HO162.out).2.1); rintro e w13 ⟨rfl, hb⟩; refine ⟨_, rfl, ?_⟩; replace HO162 := Aside0.mk (Kd.R_below HO162.out hb); replace HB := Aside0.mk (below_step HB.out hb); (try clear hb); (try clear hb2); (try clear hk); (try clear hi)))
     replace HO162 := Aside0.mk (Kd.R_drew HO162.out)
     replace HB := Aside0.mk (below_drew1 HB.out)
     refine start_ (n := 12) (S := fun w' => True) (ds := []) (bs 12 0) (by kernel_rfl) rfl rfl trivial (fun hHeld => ?_); refine with_tabW hortatorlaw9_DemandRun.tab7 hortatorlaw9_DemandRun.bits7 (fun HT_ HW_ => ?_)
     generalize w13.drew = w14 at HO162 HB hHeld ⊢
     refine pureA_ (i := 0) (N := some 22) (bs 12 1) HT_ ?_
     refine pureA_ (i := 1) (N := some 23) (bs 12 3) HT_ ?_
     refine pureA_ (i := 3) (N := some 25) (bs 12 11) HT_ ?_
     refine pureA_ (i := 4) (N := some 26) (bs 12 27) HT_ ?_
     refine pureA_ (i := 6) (N := some 28) (bs 12 91) HT_ ?_
     refine pureA_ (i := 7) (N := some 29) (bs 12 219) HT_ ?_
     refine join_ (σ := Value × Value × Value) 1 (bs 12 2047) (fun s_ => [(24, s_.1), (27, s_.2.1), (30, s_.2.2), (6, s_.1), (7, s_.2.1)]) (fun s_ w' => (Kd.R k31 31 w' w.heap.size (fun _ => True) (.slice Ao12 t160.length co12) t160) ∧ (Kd.R (Kd.int .i64) 2 w' w.heap.size (fun k_ => some k_ ≠ (s_.2.1 : Value).ownBlock ∧ some k_ ≠ (s_.2.2 : Value).ownBlock) s_.1 y164) ∧ (Kd.R (Kd.int .i64) 2 w' w.heap.size (fun k_ => some k_ ≠ (s_.1 : Value).ownBlock ∧ some k_ ≠ (s_.2.2 : Value).ownBlock) s_.2.1 y167) ∧ (Kd.R (Kd.int .i64) 2 w' w.heap.size (fun k_ => some k_ ≠ (s_.1 : Value).ownBlock ∧ some k_ ≠ (s_.2.1 : Value).ownBlock) s_.2.2 y170) ∧ (Below w.heap.size w w')) ?_ ?_
     rotate_left
     ·as_aux_lemma =>
      intro hJ2_5_8
      refine join_ (σ := Value × Value) 2 (bs 12 1791) (fun s_ => [(24, s_.1), (27, s_.2), (6, s_.1), (7, s_.2)]) (fun s_ w' => (Kd.R k31 31 w' w.heap.size (fun _ => True) (.slice Ao12 t160.length co12) t160) ∧ (Kd.R (Kd.int .i64) 2 w' w.heap.size (fun k_ => some k_ ≠ (s_.2 : Value).ownBlock) s_.1 y164) ∧ (Kd.R (Kd.int .i64) 2 w' w.heap.size (fun k_ => some k_ ≠ (s_.1 : Value).ownBlock) s_.2 y167) ∧ (Below w.heap.size w w')) ?_ ?_
      rotate_left
      ·intro hJ2_5
       refine join_ (σ := Value × Value) 3 (bs 12 991) (fun s_ => [(24, s_.1), (30, s_.2), (6, s_.1)]) (fun s_ w' => (Kd.R k31 31 w' w.heap.size (fun _ => True) (.slice Ao12 t160.length co12) t160) ∧ (Kd.R (Kd.int .i64) 2 w' w.heap.size (fun k_ => some k_ ≠ (s_.2 : Value).ownBlock) s_.1 y164) ∧ (Kd.R (Kd.int .i64) 2 w' w.heap.size (fun k_ => some k_ ≠ (s_.1 : Value).ownBlock) s_.2 y170) ∧ (Below w.heap.size w w')) ?_ ?_
       rotate_left
       ·intro hJ2_8
        refine join_ (σ := Value × Value) 4 (bs 12 507) (fun s_ => [(27, s_.1), (30, s_.2)]) (fun s_ w' => (Kd.R k31 31 w' w.heap.size (fun _ => True) (.slice Ao12 t160.length co12) t160) ∧ (Kd.R (Kd.int .i64) 2 w' w.heap.size (fun k_ => some k_ ≠ (s_.2 : Value).ownBlock) s_.1 y167) ∧ (Kd.R (Kd.int .i64) 2 w' w.heap.size (fun k_ => some k_ ≠ (s_.1 : Value).ownBlock) s_.2 y170) ∧ (Below w.heap.size w w')) ?_ ?_
        rotate_left
        ·intro hJ5_8
         refine join_ (σ := Value) 4 (bs 12 735) (fun s_ => [(24, s_), (6, s_)]) (fun s_ w' => (Kd.R k31 31 w' w.heap.size (fun _ => True) (.slice Ao12 t160.length co12) t160) ∧ (Kd.R (Kd.int .i64) 2 w' w.heap.size (fun _ => True) s_ y164) ∧ (Below w.heap.size w w')) ?_ ?_
         rotate_left
         ·intro hJ2
          refine join_ (σ := Value) 5 (bs 12 251) (fun s_ => [(27, s_)]) (fun s_ w' => (Kd.R k31 31 w' w.heap.size (fun _ => True) (.slice Ao12 t160.length co12) t160) ∧ (Kd.R (Kd.int .i64) 2 w' w.heap.size (fun _ => True) s_ y167) ∧ (Below w.heap.size w w')) ?_ ?_
          rotate_left
          ·intro hJ5
           refine join_ (σ := Value) 5 (bs 12 475) (fun s_ => [(30, s_)]) (fun s_ w' => (Kd.R k31 31 w' w.heap.size (fun _ => True) (.slice Ao12 t160.length co12) t160) ∧ (Kd.R (Kd.int .i64) 2 w' w.heap.size (fun _ => True) s_ y170) ∧ (Below w.heap.size w w')) ?_ ?_
           rotate_left
           ·intro hJ8
            refine three_ (i := 2) (j := 5) (k := 8) (Ni := some 24) (Nj := some 27) (Nk := some 30) (bs 12 223) (bs 12 251) (bs 12 475) rfl rfl rfl rfl rfl rfl (three_of HT_.out (by kernel_rfl)) (by decide) (by decide) (by decide) (fun K hK => ?_) (fun K hK => ?_) (fun K hK => ?_)
            ·skip
             refine Kd.R_make_step (Kd.int .i64) _ 2 (by rfl) (N := 24) rfl 32 _ _ rfl (t160.length : Int) rfl rfl Tryz.underlying32 (.int .i64 0) 8 info2 rfl (by decide) (by omega) 0 (ok := fun _ => True) (okp := fun _ => True) rfl (fun _ hk => hk) trivial (of_decide_eq_true (by (with_reducible assumption))) (Nat.le_trans (Nat.mul_le_mul_right _ (of_decide_eq_true (by (with_reducible assumption)) : (t160.length : Int).toNat ≤ 35184372088832)) (by omega)) (Below.refl _ _) (Nat.le_refl _) ?_
             intro v165 w15 ho16 hb hg_ hnew_
             clear hg_ hnew_
             ((rw [← Ny164.out] at ho16))
             have HO166 := Aside0.mk (Kd.R_lower ho16 (below_size HB.out))
             replace HO162 := Aside0.mk (Kd.R_below HO162.out hb)
             replace HB := Aside0.mk (below_step HB.out hb)
             clear hb ho16
             refine hK.out _ _ trivial (fun hHeld => ?_)
             clear hK K
             refine norm_ (a' := ?_) ?_ ?_
             rotate_left
             ·show Act.put _ (some 24) _ = _
              simp only [Act.put, List.setIfInBounds_toArray, List.set_cons_zero, List.set_cons_succ, i64_w, i32_w]
              rfl
             refine pureA_ (i := 9) (N := some 6) (bs 12 735) HT_ ?_
             exact norm_ (by (simp only [putAll, Act.put, List.setIfInBounds_toArray, List.set_cons_zero, List.set_cons_succ]; done)) (hJ2 (v165) _ ⟨HO162.out, HO166.out, HB.out⟩)
            ·skip
             refine Kd.R_make_step (Kd.int .i64) _ 2 (by rfl) (N := 27) rfl 32 _ _ rfl (t160.length : Int) rfl rfl Tryz.underlying32 (.int .i64 0) 8 info2 rfl (by decide) (by omega) 0 (ok := fun _ => True) (okp := fun _ => True) rfl (fun _ hk => hk) trivial (of_decide_eq_true (by (with_reducible assumption))) (Nat.le_trans (Nat.mul_le_mul_right _ (of_decide_eq_true (by (with_reducible assumption)) : (t160.length : Int).toNat ≤ 35184372088832)) (by omega)) (Below.refl _ _) (Nat.le_refl _) ?_
             intro v168 w15 ho16 hb hg_ hnew_
             clear hg_ hnew_
             ((rw [← Ny167.out] at ho16))
             have HO169 := Aside0.mk (Kd.R_lower ho16 (below_size HB.out))
             replace HO162 := Aside0.mk (Kd.R_below HO162.out hb)
             replace HB := Aside0.mk (below_step HB.out hb)
             clear hb ho16
             refine hK.out _ _ trivial (fun hHeld => ?_)
             clear hK K
             refine norm_ (a' := ?_) ?_ ?_
             rotate_left
             ·show Act.put _ (some 27) _ = _
              simp only [Act.put, List.setIfInBounds_toArray, List.set_cons_zero, List.set_cons_succ, i64_w, i32_w]
              rfl
             exact norm_ (by (simp only [putAll, Act.put, List.setIfInBounds_toArray, List.set_cons_zero, List.set_cons_succ]; done)) (hJ5 (v168) _ ⟨HO162.out, HO169.out, HB.out⟩)
            ·skip
             refine Kd.R_make_step (Kd.int .i64) _ 2 (by rfl) (N := 30) rfl 32 _ _ rfl (t160.length : Int) rfl rfl Tryz.underlying32 (.int .i64 0) 8 info2 rfl (by decide) (by omega) 0 (ok := fun _ => True) (okp := fun _ => True) rfl (fun _ hk => hk) trivial (of_decide_eq_true (by (with_reducible assumption))) (Nat.le_trans (Nat.mul_le_mul_right _ (of_decide_eq_true (by (with_reducible assumption)) : (t160.length : Int).toNat ≤ 35184372088832)) (by omega)) (Below.refl _ _) (Nat.le_refl _) ?_
             intro v171 w15 ho16 hb hg_ hnew_
             clear hg_ hnew_
             ((rw [← Ny170.out] at ho16))
             have HO172 := Aside0.mk (Kd.R_lower ho16 (below_size HB.out))
             replace HO162 := Aside0.mk (Kd.R_below HO162.out hb)
             replace HB := Aside0.mk (below_step HB.out hb)
             clear hb ho16
             refine hK.out _ _ trivial (fun hHeld => ?_)
             clear hK K
             refine norm_ (a' := ?_) ?_ ?_
             rotate_left
             ·show Act.put _ (some 30) _ = _
              simp only [Act.put, List.setIfInBounds_toArray, List.set_cons_zero, List.set_cons_succ, i64_w, i32_w]
              rfl
             exact norm_ (by (simp only [putAll, Act.put, List.setIfInBounds_toArray, List.set_cons_zero, List.set_cons_succ]; done)) (hJ8 (v171) _ ⟨HO162.out, HO172.out, HB.out⟩)
           ·skip
            rintro v171 w17 ⟨h0_, h1_, h2_⟩
            have HO172 : Aside0 (Kd.R (Kd.int .i64) 2 w17 w.heap.size (fun _ => True) v171 y170) := ⟨h1_⟩
            replace HO162 : Aside0 (Kd.R k31 31 w17 w.heap.size (fun _ => True) (.slice Ao12 t160.length co12) t160) := ⟨h0_⟩
            replace HB : Aside0 (Below w.heap.size w w17) := ⟨h2_⟩
            clear h0_ h1_ h2_
            have hHeld := trivial
            refine norm_ (a' := ?_) ?_ ?_
            rotate_left
            ·simp only [putAll, Act.put, List.setIfInBounds_toArray, List.set_cons_zero, List.set_cons_succ]
             rfl
            refine two_ (i := 2) (j := 5) (Ni := some 24) (Nj := some 27) (bs 12 479) (bs 12 507) rfl rfl rfl rfl (two_of HT_.out (by kernel_rfl)) (by decide) (by decide) (fun K hK => ?_) (fun K hK => ?_)
            ·skip
             refine Kd.R_make_step (Kd.int .i64) _ 2 (by rfl) (N := 24) rfl 32 _ _ rfl (t160.length : Int) rfl rfl Tryz.underlying32 (.int .i64 0) 8 info2 rfl (by decide) (by omega) 0 (ok := fun _ => True) (okp := fun _ => True) rfl (fun _ hk => hk) trivial (of_decide_eq_true (by (with_reducible assumption))) (Nat.le_trans (Nat.mul_le_mul_right _ (of_decide_eq_true (by (with_reducible assumption)) : (t160.length : Int).toNat ≤ 35184372088832)) (by omega)) (Below.refl _ _) (Nat.le_refl _) ?_
             intro v165 w18 ho19 hb hg_ hnew_
             clear hg_ hnew_
             ((rw [← Ny164.out] at ho19))
             have HO166 := Aside0.mk (Kd.R_lower (Kd.R_new' ho19 (Kd.R_lt HO172.out)) (below_size HB.out))
             replace HO162 := Aside0.mk (Kd.R_below HO162.out hb)
             replace HO172 := Aside0.mk (Kd.R_elder' HO172.out (Kd.R_base ho19) hb)
             replace HB := Aside0.mk (below_step HB.out hb)
             clear hb ho19
             refine hK.out _ _ trivial (fun hHeld => ?_)
             clear hK K
             refine norm_ (a' := ?_) ?_ ?_
             rotate_left
             ·show Act.put _ (some 24) _ = _
              simp only [Act.put, List.setIfInBounds_toArray, List.set_cons_zero, List.set_cons_succ, i64_w, i32_w]
              rfl
             refine pureA_ (i := 9) (N := some 6) (bs 12 991) HT_ ?_
             exact norm_ (by (simp only [putAll, Act.put, List.setIfInBounds_toArray, List.set_cons_zero, List.set_cons_succ]; done)) (hJ2_8 (v165, v171) _ ⟨HO162.out, (by exact Kd.R_mono HO166.out (fun _ hk => hk.2)), (by exact Kd.R_mono HO172.out (fun _ hk => hk.2)), HB.out⟩)
            ·skip
             refine Kd.R_make_step (Kd.int .i64) _ 2 (by rfl) (N := 27) rfl 32 _ _ rfl (t160.length : Int) rfl rfl Tryz.underlying32 (.int .i64 0) 8 info2 rfl (by decide) (by omega) 0 (ok := fun _ => True) (okp := fun _ => True) rfl (fun _ hk => hk) trivial (of_decide_eq_true (by (with_reducible assumption))) (Nat.le_trans (Nat.mul_le_mul_right _ (of_decide_eq_true (by (with_reducible assumption)) : (t160.length : Int).toNat ≤ 35184372088832)) (by omega)) (Below.refl _ _) (Nat.le_refl _) ?_
             intro v168 w18 ho19 hb hg_ hnew_
             clear hg_ hnew_
             ((rw [← Ny167.out] at ho19))
             have HO169 := Aside0.mk (Kd.R_lower (Kd.R_new' ho19 (Kd.R_lt HO172.out)) (below_size HB.out))
             replace HO162 := Aside0.mk (Kd.R_below HO162.out hb)
             replace HO172 := Aside0.mk (Kd.R_elder' HO172.out (Kd.R_base ho19) hb)
             replace HB := Aside0.mk (below_step HB.out hb)
             clear hb ho19
             refine hK.out _ _ trivial (fun hHeld => ?_)
             clear hK K
             refine norm_ (a' := ?_) ?_ ?_
             rotate_left
             ·show Act.put _ (some 27) _ = _
              simp only [Act.put, List.setIfInBounds_toArray, List.set_cons_zero, List.set_cons_succ, i64_w, i32_w]
              rfl
             exact norm_ (by (simp only [putAll, Act.put, List.setIfInBounds_toArray, List.set_cons_zero, List.set_cons_succ]; done)) (hJ5_8 (v168, v171) _ ⟨HO162.out, (by exact Kd.R_mono HO169.out (fun _ hk => hk.2)), (by exact Kd.R_mono HO172.out (fun _ hk => hk.2)), HB.out⟩)
          ·skip
           rintro v168 w17 ⟨h0_, h1_, h2_⟩
           have HO169 : Aside0 (Kd.R (Kd.int .i64) 2 w17 w.heap.size (fun _ => True) v168 y167) := ⟨h1_⟩
           replace HO162 : Aside0 (Kd.R k31 31 w17 w.heap.size (fun _ => True) (.slice Ao12 t160.length co12) t160) := ⟨h0_⟩
           replace HB : Aside0 (Below w.heap.size w w17) := ⟨h2_⟩
           clear h0_ h1_ h2_
           have hHeld := trivial
           refine norm_ (a' := ?_) ?_ ?_
           rotate_left
           ·simp only [putAll, Act.put, List.setIfInBounds_toArray, List.set_cons_zero, List.set_cons_succ]
            rfl
           refine two_ (i := 2) (j := 8) (Ni := some 24) (Nj := some 30) (bs 12 255) (bs 12 507) rfl rfl rfl rfl (two_of HT_.out (by kernel_rfl)) (by decide) (by decide) (fun K hK => ?_) (fun K hK => ?_)
           ·skip
            refine Kd.R_make_step (Kd.int .i64) _ 2 (by rfl) (N := 24) rfl 32 _ _ rfl (t160.length : Int) rfl rfl Tryz.underlying32 (.int .i64 0) 8 info2 rfl (by decide) (by omega) 0 (ok := fun _ => True) (okp := fun _ => True) rfl (fun _ hk => hk) trivial (of_decide_eq_true (by (with_reducible assumption))) (Nat.le_trans (Nat.mul_le_mul_right _ (of_decide_eq_true (by (with_reducible assumption)) : (t160.length : Int).toNat ≤ 35184372088832)) (by omega)) (Below.refl _ _) (Nat.le_refl _) ?_
            intro v165 w18 ho19 hb hg_ hnew_
            clear hg_ hnew_
            ((rw [← Ny164.out] at ho19))
            have HO166 := Aside0.mk (Kd.R_lower (Kd.R_new' ho19 (Kd.R_lt HO169.out)) (below_size HB.out))
            replace HO162 := Aside0.mk (Kd.R_below HO162.out hb)
            replace HO169 := Aside0.mk (Kd.R_elder' HO169.out (Kd.R_base ho19) hb)
            replace HB := Aside0.mk (below_step HB.out hb)
            clear hb ho19
            refine hK.out _ _ trivial (fun hHeld => ?_)
            clear hK K
            refine norm_ (a' := ?_) ?_ ?_
            rotate_left
            ·show Act.put _ (some 24) _ = _
             simp only [Act.put, List.setIfInBounds_toArray, List.set_cons_zero, List.set_cons_succ, i64_w, i32_w]
             rfl
            refine pureA_ (i := 9) (N := some 6) (bs 12 767) HT_ ?_
            refine pureA_ (i := 10) (N := some 7) (bs 12 1791) HT_ ?_
            exact norm_ (by (simp only [putAll, Act.put, List.setIfInBounds_toArray, List.set_cons_zero, List.set_cons_succ]; done)) (hJ2_5 (v165, v168) _ ⟨HO162.out, (by exact Kd.R_mono HO166.out (fun _ hk => hk.2)), (by exact Kd.R_mono HO169.out (fun _ hk => hk.2)), HB.out⟩)
           ·skip
            refine Kd.R_make_step (Kd.int .i64) _ 2 (by rfl) (N := 30) rfl 32 _ _ rfl (t160.length : Int) rfl rfl Tryz.underlying32 (.int .i64 0) 8 info2 rfl (by decide) (by omega) 0 (ok := fun _ => True) (okp := fun _ => True) rfl (fun _ hk => hk) trivial (of_decide_eq_true (by (with_reducible assumption))) (Nat.le_trans (Nat.mul_le_mul_right _ (of_decide_eq_true (by (with_reducible assumption)) : (t160.length : Int).toNat ≤ 35184372088832)) (by omega)) (Below.refl _ _) (Nat.le_refl _) ?_
            intro v171 w18 ho19 hb hg_ hnew_
            clear hg_ hnew_
            ((rw [← Ny170.out] at ho19))
            have HO172 := Aside0.mk (Kd.R_lower (Kd.R_new' ho19 (Kd.R_lt HO169.out)) (below_size HB.out))
            replace HO162 := Aside0.mk (Kd.R_below HO162.out hb)
            replace HO169 := Aside0.mk (Kd.R_elder' HO169.out (Kd.R_base ho19) hb)
            replace HB := Aside0.mk (below_step HB.out hb)
            clear hb ho19
            refine hK.out _ _ trivial (fun hHeld => ?_)
            clear hK K
            refine norm_ (a' := ?_) ?_ ?_
            rotate_left
            ·show Act.put _ (some 30) _ = _
             simp only [Act.put, List.setIfInBounds_toArray, List.set_cons_zero, List.set_cons_succ, i64_w, i32_w]
             rfl
            exact norm_ (by (simp only [putAll, Act.put, List.setIfInBounds_toArray, List.set_cons_zero, List.set_cons_succ]; done)) (hJ5_8 (v168, v171) _ ⟨HO162.out, (by exact Kd.R_mono HO169.out (fun _ hk => hk.2)), (by exact Kd.R_mono HO172.out (fun _ hk => hk.2)), HB.out⟩)
         ·skip
          rintro v165 w17 ⟨h0_, h1_, h2_⟩
          have HO166 : Aside0 (Kd.R (Kd.int .i64) 2 w17 w.heap.size (fun _ => True) v165 y164) := ⟨h1_⟩
          replace HO162 : Aside0 (Kd.R k31 31 w17 w.heap.size (fun _ => True) (.slice Ao12 t160.length co12) t160) := ⟨h0_⟩
          replace HB : Aside0 (Below w.heap.size w w17) := ⟨h2_⟩
          clear h0_ h1_ h2_
          have hHeld := trivial
          refine norm_ (a' := ?_) ?_ ?_
          rotate_left
          ·simp only [putAll, Act.put, List.setIfInBounds_toArray, List.set_cons_zero, List.set_cons_succ]
           rfl
          refine two_ (i := 5) (j := 8) (Ni := some 27) (Nj := some 30) (bs 12 767) (bs 12 991) rfl rfl rfl rfl (two_of HT_.out (by kernel_rfl)) (by decide) (by decide) (fun K hK => ?_) (fun K hK => ?_)
          ·skip
           refine Kd.R_make_step (Kd.int .i64) _ 2 (by rfl) (N := 27) rfl 32 _ _ rfl (t160.length : Int) rfl rfl Tryz.underlying32 (.int .i64 0) 8 info2 rfl (by decide) (by omega) 0 (ok := fun _ => True) (okp := fun _ => True) rfl (fun _ hk => hk) trivial (of_decide_eq_true (by (with_reducible assumption))) (Nat.le_trans (Nat.mul_le_mul_right _ (of_decide_eq_true (by (with_reducible assumption)) : (t160.length : Int).toNat ≤ 35184372088832)) (by omega)) (Below.refl _ _) (Nat.le_refl _) ?_
           intro v168 w18 ho19 hb hg_ hnew_
           clear hg_ hnew_
           ((rw [← Ny167.out] at ho19))
           have HO169 := Aside0.mk (Kd.R_lower (Kd.R_new' ho19 (Kd.R_lt HO166.out)) (below_size HB.out))
           replace HO162 := Aside0.mk (Kd.R_below HO162.out hb)
           replace HO166 := Aside0.mk (Kd.R_elder' HO166.out (Kd.R_base ho19) hb)
           replace HB := Aside0.mk (below_step HB.out hb)
           clear hb ho19
           refine hK.out _ _ trivial (fun hHeld => ?_)
           clear hK K
           refine norm_ (a' := ?_) ?_ ?_
           rotate_left
           ·show Act.put _ (some 27) _ = _
            simp only [Act.put, List.setIfInBounds_toArray, List.set_cons_zero, List.set_cons_succ, i64_w, i32_w]
            rfl
           refine pureA_ (i := 10) (N := some 7) (bs 12 1791) HT_ ?_
           exact norm_ (by (simp only [putAll, Act.put, List.setIfInBounds_toArray, List.set_cons_zero, List.set_cons_succ]; done)) (hJ2_5 (v165, v168) _ ⟨HO162.out, (by exact Kd.R_mono HO166.out (fun _ hk => hk.2)), (by exact Kd.R_mono HO169.out (fun _ hk => hk.2)), HB.out⟩)
          ·skip
           refine Kd.R_make_step (Kd.int .i64) _ 2 (by rfl) (N := 30) rfl 32 _ _ rfl (t160.length : Int) rfl rfl Tryz.underlying32 (.int .i64 0) 8 info2 rfl (by decide) (by omega) 0 (ok := fun _ => True) (okp := fun _ => True) rfl (fun _ hk => hk) trivial (of_decide_eq_true (by (with_reducible assumption))) (Nat.le_trans (Nat.mul_le_mul_right _ (of_decide_eq_true (by (with_reducible assumption)) : (t160.length : Int).toNat ≤ 35184372088832)) (by omega)) (Below.refl _ _) (Nat.le_refl _) ?_
           intro v171 w18 ho19 hb hg_ hnew_
           clear hg_ hnew_
           ((rw [← Ny170.out] at ho19))
           have HO172 := Aside0.mk (Kd.R_lower (Kd.R_new' ho19 (Kd.R_lt HO166.out)) (below_size HB.out))
           replace HO162 := Aside0.mk (Kd.R_below HO162.out hb)
           replace HO166 := Aside0.mk (Kd.R_elder' HO166.out (Kd.R_base ho19) hb)
           replace HB := Aside0.mk (below_step HB.out hb)
           clear hb ho19
           refine hK.out _ _ trivial (fun hHeld => ?_)
           clear hK K
           refine norm_ (a' := ?_) ?_ ?_
           rotate_left
           ·show Act.put _ (some 30) _ = _
            simp only [Act.put, List.setIfInBounds_toArray, List.set_cons_zero, List.set_cons_succ, i64_w, i32_w]
            rfl
           exact norm_ (by (simp only [putAll, Act.put, List.setIfInBounds_toArray, List.set_cons_zero, List.set_cons_succ]; done)) (hJ2_8 (v165, v171) _ ⟨HO162.out, (by exact Kd.R_mono HO166.out (fun _ hk => hk.2)), (by exact Kd.R_mono HO172.out (fun _ hk => hk.2)), HB.out⟩)
        ·skip
         rintro ⟨v168, v171⟩ w19 ⟨h0_, h1_, h2_, h3_⟩
         have HO169 : Aside0 (Kd.R (Kd.int .i64) 2 w19 w.heap.size (fun k_ => some k_ ≠ (v171 : Value).ownBlock) v168 y167) := ⟨h1_⟩
         have HO172 : Aside0 (Kd.R (Kd.int .i64) 2 w19 w.heap.size (fun k_ => some k_ ≠ (v168 : Value).ownBlock) v171 y170) := ⟨h2_⟩
         replace HO162 : Aside0 (Kd.R k31 31 w19 w.heap.size (fun _ => True) (.slice Ao12 t160.length co12) t160) := ⟨h0_⟩
         replace HB : Aside0 (Below w.heap.size w w19) := ⟨h3_⟩
         clear h0_ h1_ h2_ h3_
         have hHeld := trivial
         refine norm_ (a' := ?_) ?_ ?_
         rotate_left
         ·simp only [putAll, Act.put, List.setIfInBounds_toArray, List.set_cons_zero, List.set_cons_succ]
          rfl
         refine one_ (i := 2) (N := some 24) (bs 12 511) rfl rfl (one_of HT_.out (by kernel_rfl)) (by decide) (fun K hK => ?_)
         refine Kd.R_make_step (Kd.int .i64) _ 2 (by rfl) (N := 24) rfl 32 _ _ rfl (t160.length : Int) rfl rfl Tryz.underlying32 (.int .i64 0) 8 info2 rfl (by decide) (by omega) 0 (ok := fun _ => True) (okp := fun _ => True) rfl (fun _ hk => hk) trivial (of_decide_eq_true (by (with_reducible assumption))) (Nat.le_trans (Nat.mul_le_mul_right _ (of_decide_eq_true (by (with_reducible assumption)) : (t160.length : Int).toNat ≤ 35184372088832)) (by omega)) (Below.refl _ _) (Nat.le_refl _) ?_
         intro v165 w20 ho21 hb hg_ hnew_
         clear hg_ hnew_
         ((rw [← Ny164.out] at ho21))
         have HO166 := Aside0.mk (Kd.R_lower (Kd.R_new' (Kd.R_new' ho21 (Kd.R_lt HO169.out)) (Kd.R_lt HO172.out)) (below_size HB.out))
         replace HO162 := Aside0.mk (Kd.R_below HO162.out hb)
         replace HO169 := Aside0.mk (Kd.R_elder' HO169.out (Kd.R_base ho21) hb)
         replace HO172 := Aside0.mk (Kd.R_elder' HO172.out (Kd.R_base ho21) hb)
         replace HB := Aside0.mk (below_step HB.out hb)
         clear hb ho21
         refine hK.out _ _ trivial (fun hHeld => ?_)
         clear hK K
         refine norm_ (a' := ?_) ?_ ?_
         rotate_left
         ·show Act.put _ (some 24) _ = _
          simp only [Act.put, List.setIfInBounds_toArray, List.set_cons_zero, List.set_cons_succ, i64_w, i32_w]
          rfl
         refine pureA_ (i := 9) (N := some 6) (bs 12 1023) HT_ ?_
         refine pureA_ (i := 10) (N := some 7) (bs 12 2047) HT_ ?_
         exact norm_ (by (simp only [putAll, Act.put, List.setIfInBounds_toArray, List.set_cons_zero, List.set_cons_succ]; done)) (hJ2_5_8 (v165, v168, v171) _ ⟨HO162.out, (by exact Kd.R_mono HO166.out (fun _ hk => ⟨hk.1.2, hk.2⟩)), (by exact Kd.R_mono HO169.out (fun _ hk => ⟨hk.2, hk.1⟩)), (by exact Kd.R_mono HO172.out (fun _ hk => ⟨hk.2, hk.1⟩)), HB.out⟩)
       ·skip
        rintro ⟨v165, v171⟩ w19 ⟨h0_, h1_, h2_, h3_⟩
        have HO166 : Aside0 (Kd.R (Kd.int .i64) 2 w19 w.heap.size (fun k_ => some k_ ≠ (v171 : Value).ownBlock) v165 y164) := ⟨h1_⟩
        have HO172 : Aside0 (Kd.R (Kd.int .i64) 2 w19 w.heap.size (fun k_ => some k_ ≠ (v165 : Value).ownBlock) v171 y170) := ⟨h2_⟩
        replace HO162 : Aside0 (Kd.R k31 31 w19 w.heap.size (fun _ => True) (.slice Ao12 t160.length co12) t160) := ⟨h0_⟩
        replace HB : Aside0 (Below w.heap.size w w19) := ⟨h3_⟩
        clear h0_ h1_ h2_ h3_
        have hHeld := trivial
        refine norm_ (a' := ?_) ?_ ?_
        rotate_left
        ·simp only [putAll, Act.put, List.setIfInBounds_toArray, List.set_cons_zero, List.set_cons_succ]
         rfl
        refine one_ (i := 5) (N := some 27) (bs 12 1023) rfl rfl (one_of HT_.out (by kernel_rfl)) (by decide) (fun K hK => ?_)
        refine Kd.R_make_step (Kd.int .i64) _ 2 (by rfl) (N := 27) rfl 32 _ _ rfl (t160.length : Int) rfl rfl Tryz.underlying32 (.int .i64 0) 8 info2 rfl (by decide) (by omega) 0 (ok := fun _ => True) (okp := fun _ => True) rfl (fun _ hk => hk) trivial (of_decide_eq_true (by (with_reducible assumption))) (Nat.le_trans (Nat.mul_le_mul_right _ (of_decide_eq_true (by (with_reducible assumption)) : (t160.length : Int).toNat ≤ 35184372088832)) (by omega)) (Below.refl _ _) (Nat.le_refl _) ?_
        intro v168 w20 ho21 hb hg_ hnew_
        clear hg_ hnew_
        ((rw [← Ny167.out] at ho21))
        have HO169 := Aside0.mk (Kd.R_lower (Kd.R_new' (Kd.R_new' ho21 (Kd.R_lt HO166.out)) (Kd.R_lt HO172.out)) (below_size HB.out))
        replace HO162 := Aside0.mk (Kd.R_below HO162.out hb)
        replace HO166 := Aside0.mk (Kd.R_elder' HO166.out (Kd.R_base ho21) hb)
        replace HO172 := Aside0.mk (Kd.R_elder' HO172.out (Kd.R_base ho21) hb)
        replace HB := Aside0.mk (below_step HB.out hb)
        clear hb ho21
        refine hK.out _ _ trivial (fun hHeld => ?_)
        clear hK K
        refine norm_ (a' := ?_) ?_ ?_
        rotate_left
        ·show Act.put _ (some 27) _ = _
         simp only [Act.put, List.setIfInBounds_toArray, List.set_cons_zero, List.set_cons_succ, i64_w, i32_w]
         rfl
        refine pureA_ (i := 10) (N := some 7) (bs 12 2047) HT_ ?_
        exact norm_ (by (simp only [putAll, Act.put, List.setIfInBounds_toArray, List.set_cons_zero, List.set_cons_succ]; done)) (hJ2_5_8 (v165, v168, v171) _ ⟨HO162.out, (by exact Kd.R_mono HO166.out (fun _ hk => ⟨hk.2, hk.1⟩)), (by exact Kd.R_mono HO169.out (fun _ hk => ⟨hk.1.2, hk.2⟩)), HO172.out, HB.out⟩)
      ·skip
       rintro ⟨v165, v168⟩ w19 ⟨h0_, h1_, h2_, h3_⟩
       have HO166 : Aside0 (Kd.R (Kd.int .i64) 2 w19 w.heap.size (fun k_ => some k_ ≠ (v168 : Value).ownBlock) v165 y164) := ⟨h1_⟩
       have HO169 : Aside0 (Kd.R (Kd.int .i64) 2 w19 w.heap.size (fun k_ => some k_ ≠ (v165 : Value).ownBlock) v168 y167) := ⟨h2_⟩
       replace HO162 : Aside0 (Kd.R k31 31 w19 w.heap.size (fun _ => True) (.slice Ao12 t160.length co12) t160) := ⟨h0_⟩
       replace HB : Aside0 (Below w.heap.size w w19) := ⟨h3_⟩
       clear h0_ h1_ h2_ h3_
       have hHeld := trivial
       refine norm_ (a' := ?_) ?_ ?_
       rotate_left
       ·simp only [putAll, Act.put, List.setIfInBounds_toArray, List.set_cons_zero, List.set_cons_succ]
        rfl
       refine one_ (i := 8) (N := some 30) (bs 12 2047) rfl rfl (one_of HT_.out (by kernel_rfl)) (by decide) (fun K hK => ?_)
       refine Kd.R_make_step (Kd.int .i64) _ 2 (by rfl) (N := 30) rfl 32 _ _ rfl (t160.length : Int) rfl rfl Tryz.underlying32 (.int .i64 0) 8 info2 rfl (by decide) (by omega) 0 (ok := fun _ => True) (okp := fun _ => True) rfl (fun _ hk => hk) trivial (of_decide_eq_true (by (with_reducible assumption))) (Nat.le_trans (Nat.mul_le_mul_right _ (of_decide_eq_true (by (with_reducible assumption)) : (t160.length : Int).toNat ≤ 35184372088832)) (by omega)) (Below.refl _ _) (Nat.le_refl _) ?_
       intro v171 w20 ho21 hb hg_ hnew_
       clear hg_ hnew_
       ((rw [← Ny170.out] at ho21))
       have HO172 := Aside0.mk (Kd.R_lower (Kd.R_new' (Kd.R_new' ho21 (Kd.R_lt HO166.out)) (Kd.R_lt HO169.out)) (below_size HB.out))
       replace HO162 := Aside0.mk (Kd.R_below HO162.out hb)
       replace HO166 := Aside0.mk (Kd.R_elder' HO166.out (Kd.R_base ho21) hb)
       replace HO169 := Aside0.mk (Kd.R_elder' HO169.out (Kd.R_base ho21) hb)
       replace HB := Aside0.mk (below_step HB.out hb)
       clear hb ho21
       refine hK.out _ _ trivial (fun hHeld => ?_)
       clear hK K
       refine norm_ (a' := ?_) ?_ ?_
       rotate_left
       ·show Act.put _ (some 30) _ = _
        simp only [Act.put, List.setIfInBounds_toArray, List.set_cons_zero, List.set_cons_succ, i64_w, i32_w]
        rfl
       exact norm_ (by (simp only [putAll, Act.put, List.setIfInBounds_toArray, List.set_cons_zero, List.set_cons_succ]; done)) (hJ2_5_8 (v165, v168, v171) _ ⟨HO162.out, HO166.out, HO169.out, (by exact Kd.R_mono HO172.out (fun _ hk => ⟨hk.1.2, hk.2⟩)), HB.out⟩)
     rintro ⟨v165, v168, v171⟩ w21 ⟨h0_, h1_, h2_, h3_, h4_⟩
     have HO166 : Aside0 (Kd.R (Kd.int .i64) 2 w21 w.heap.size (fun k_ => some k_ ≠ (v168 : Value).ownBlock ∧ some k_ ≠ (v171 : Value).ownBlock) v165 y164) := ⟨h1_⟩
     have HO169 : Aside0 (Kd.R (Kd.int .i64) 2 w21 w.heap.size (fun k_ => some k_ ≠ (v165 : Value).ownBlock ∧ some k_ ≠ (v171 : Value).ownBlock) v168 y167) := ⟨h2_⟩
     have HO172 : Aside0 (Kd.R (Kd.int .i64) 2 w21 w.heap.size (fun k_ => some k_ ≠ (v165 : Value).ownBlock ∧ some k_ ≠ (v168 : Value).ownBlock) v171 y170) := ⟨h3_⟩
     replace HO162 : Aside0 (Kd.R k31 31 w21 w.heap.size (fun _ => True) (.slice Ao12 t160.length co12) t160) := ⟨h0_⟩
     replace HB : Aside0 (Below w.heap.size w w21) := ⟨h4_⟩
     clear h0_ h1_ h2_ h3_ h4_
     have hHeld := trivial
     refine norm_ (a' := ?_) ?_ ?_
     rotate_left
     ·simp only [putAll, Act.put, List.setIfInBounds_toArray, List.set_cons_zero, List.set_cons_succ]
      rfl
     refine pureA_ (i := 11) (N := some 8) (bs 12 4095) HT_ ?_
     refine done_ (done_of HT_.out (by kernel_rfl)) ?_
     try go_wp2
     go_loopg [9, 10] k (fun kq v9 v10 w' => ∃ (x6_1 : List Int) (x7_1 : List Int) (x8_1 : List Int) (x9_1 : Int) (x10_1 : Int), v9 = .int .i64 x9_1 ∧ v10 = .int .i64 x10_1 ∧ Aside0 (hortatorlaw9_DemandRun.l0 kq t160 l1 x6_1 x7_1 x8_1 x9_1 x10_1 = some r) ∧ Aside0 (kq ≤ k) ∧ Aside0 (Kd.R k31 31 w' w.heap.size (fun _ => True) (.slice Ao12 t160.length co12) t160) ∧ Aside0 (Kd.R (Kd.int .i64) 2 w' w.heap.size (fun k_ => some k_ ≠ (v168 : Value).ownBlock ∧ some k_ ≠ (v171 : Value).ownBlock) v165 x6_1) ∧ Aside0 (Kd.R (Kd.int .i64) 2 w' w.heap.size (fun k_ => some k_ ≠ (v165 : Value).ownBlock ∧ some k_ ≠ (v171 : Value).ownBlock) v168 x7_1) ∧ Aside0 (Kd.R (Kd.int .i64) 2 w' w.heap.size (fun k_ => some k_ ≠ (v165 : Value).ownBlock ∧ some k_ ≠ (v168 : Value).ownBlock) v171 x8_1) ∧ Aside0 (Below w.heap.size w w'))
     case atStart => exact ⟨(y164), (y167), (y170), (0), (0), (by (rfl)), (by (rfl)), H', ⟨Nat.le_refl _⟩, ⟨HO162.out⟩, ⟨HO166.out⟩, ⟨HO169.out⟩, ⟨HO172.out⟩, ⟨HB.out⟩⟩
     case round =>
      clear H'
      obtain ⟨x6_1, x7_1, x8_1, x9_1, x10_1, rfl, rfl, HA, HK1, HO_0, HO_6, HO_7, HO_8, HB⟩ := hrel
      cases gk with
      | zero => exact absurd HA.out (by simp [hortatorlaw9_DemandRun.l0])
      | succ k1 =>
       have H := HA.out
       clear HA
       simp only [hortatorlaw9_DemandRun.l0] at H
       by_cases c22 : x10_1 < 600
       ·rw [if_pos c22] at H
        have c22b0 : decide (x10_1 < 600) = true := decide_eq_true c22
        clear c22
        have H' := Aside0.mk H
        clear H
        go_wp2
        go_loopg [9, 11, 12] k1 (fun kq v9 v11 v12 w' => ∃ (x6_2 : List Int) (x7_2 : List Int) (x8_2 : List Int) (x9_2 : Int) (x11_2 : Int) (x12_2 : Int), v9 = .int .i64 x9_2 ∧ v11 = .int .i64 x11_2 ∧ v12 = .int .i64 x12_2 ∧ Aside0 (hortatorlaw9_DemandRun.l1 kq t160 l1 x6_2 x7_2 x8_2 x9_2 x10_1 x11_2 x12_2 = some r) ∧ Aside0 (kq ≤ k1) ∧ Aside0 (Kd.R k31 31 w' w.heap.size (fun _ => True) (.slice Ao12 t160.length co12) t160) ∧ Aside0 (Kd.R (Kd.int .i64) 2 w' w.heap.size (fun k_ => some k_ ≠ (v168 : Value).ownBlock ∧ some k_ ≠ (v171 : Value).ownBlock) v165 x6_2) ∧ Aside0 (Kd.R (Kd.int .i64) 2 w' w.heap.size (fun k_ => some k_ ≠ (v165 : Value).ownBlock ∧ some k_ ≠ (v171 : Value).ownBlock) v168 x7_2) ∧ Aside0 (Kd.R (Kd.int .i64) 2 w' w.heap.size (fun k_ => some k_ ≠ (v165 : Value).ownBlock ∧ some k_ ≠ (v168 : Value).ownBlock) v171 x8_2) ∧ Aside0 (Below w.heap.size w w'))
        case atStart => exact ⟨(x6_1), (x7_1), (x8_1), (x9_1), ((-1)), (0), (by (rfl)), (by (rfl)), (by (rfl)), H', ⟨Nat.le_refl _⟩, ⟨HO_0.out⟩, ⟨HO_6.out⟩, ⟨HO_7.out⟩, ⟨HO_8.out⟩, ⟨HB.out⟩⟩
        case round =>
         clear H'
         try clear c22b0
         obtain ⟨x6_2, x7_2, x8_2, x9_2, x11_2, x12_2, rfl, rfl, rfl, HA, HK2, HO_0, HO_6, HO_7, HO_8, HB⟩ := hrel
         cases gk with
         | zero => exact absurd HA.out (by simp [hortatorlaw9_DemandRun.l1])
         | succ k2 =>
          have H := HA.out
          clear HA
          simp only [hortatorlaw9_DemandRun.l1] at H
          by_cases c23 : x12_2 < (t160.length : Int)
          ·rw [if_pos c23] at H
           have c23b0 : decide (x12_2 < (t160.length : Int)) = true := decide_eq_true c23
           clear c23
           have HC24 := Aside0.mk H
           clear H
           go_upto_region 16 with (fail)
           go_cut [53] (fun v53 wc => ∃ (kq : Nat) (x53_23 : Bool), v53 = .bool x53_23 ∧ Aside0 (hortatorlaw9_DemandRun.j2 kq t160 l1 x6_2 x7_2 x8_2 x9_2 x10_1 x11_2 x12_2 x53_23 = some r) ∧ Aside0 (kq ≤ k2) ∧ Aside0 (Kd.R k31 31 wc w.heap.size (fun _ => True) (.slice Ao12 t160.length co12) t160) ∧ Aside0 (Kd.R (Kd.int .i64) 2 wc w.heap.size (fun k_ => some k_ ≠ (v168 : Value).ownBlock ∧ some k_ ≠ (v171 : Value).ownBlock) v165 x6_2) ∧ Aside0 (Kd.R (Kd.int .i64) 2 wc w.heap.size (fun k_ => some k_ ≠ (v165 : Value).ownBlock ∧ some k_ ≠ (v171 : Value).ownBlock) v168 x7_2) ∧ Aside0 (Kd.R (Kd.int .i64) 2 wc w.heap.size (fun k_ => some k_ ≠ (v165 : Value).ownBlock ∧ some k_ ≠ (v168 : Value).ownBlock) v171 x8_2) ∧ Aside0 (Below w.heap.size w wc))
           case first =>
            have H := HC24.out
            clear HC24
            by_cases c25 : 0 ≤ x12_2
            ·rw [if_pos c25] at H
             have c25b0 : decide (0 ≤ x12_2) = true := decide_eq_true c25
             clear c25
             ((skip))
             by_cases c26 : x12_2 < (x7_2.length : Int)
             ·rw [if_pos c26] at H
              have c26b0 : decide (x12_2 < (x7_2.length : Int)) = true := decide_eq_true c26
              clear c26
              by_cases c27 : (rd x7_2 x12_2) > 0
              ·rw [if_pos c27] at H
               have c27b0 : decide (0 < (rd x7_2 x12_2)) = true := decide_eq_true c27
               clear c27
               by_cases c28 : x12_2 < (x8_2.length : Int)
               ·rw [if_pos c28] at H
                have c28b0 : decide (x12_2 < (x8_2.length : Int)) = true := decide_eq_true c28
                clear c28
                have H' := Aside0.mk H
                clear H
                obtain ⟨Ao29, co29, eo29⟩ := Kd.R_slice HO_7.out
                subst eo29
                have p175 : 0 ≤ (x12_2 : Int) := of_decide_eq_true (by (with_reducible assumption))
                have q175 : x12_2 < (x7_2.length : Int) := of_decide_eq_true (by (with_reducible assumption))
                obtain ⟨ad175, e175, hx175_0⟩ := Kd.at_int (Kd.R_reads' HO_7.out).2.2 x12_2 p175 q175
                cases e175
                replace p175 := eq_true p175
                replace q175 := eq_true q175
                obtain ⟨Ao30, co30, eo30⟩ := Kd.R_slice HO_8.out
                subst eo30
                have p176 : 0 ≤ (x12_2 : Int) := of_decide_eq_true (by (with_reducible assumption))
                have q176 : x12_2 < (x8_2.length : Int) := of_decide_eq_true (by (with_reducible assumption))
                obtain ⟨ad176, e176, hx176_0⟩ := Kd.at_int (Kd.R_reads' HO_8.out).2.2 x12_2 p176 q176
                cases e176
                replace p176 := eq_true p176
                replace q176 := eq_true q176
                go_wp2
                go_meet
                case rel => exact ⟨_, (decide ((rd x8_2 x12_2) ≤ x10_1)), (by (rfl)), H', ⟨by have := HK1.out; have := HK2.out; (omega)⟩, ⟨HO_0.out⟩, ⟨HO_6.out⟩, ⟨HO_7.out⟩, ⟨HO_8.out⟩, ⟨HB.out⟩⟩
               ·rw [if_neg c28] at H
                exact absurd H (by simp)
              ·rw [if_neg c27] at H
               have c27b0 : decide (0 < (rd x7_2 x12_2)) = false := decide_eq_false c27
               clear c27
               have H' := Aside0.mk H
               clear H
               obtain ⟨Ao31, co31, eo31⟩ := Kd.R_slice HO_7.out
               subst eo31
               have p175 : 0 ≤ (x12_2 : Int) := of_decide_eq_true (by (with_reducible assumption))
               have q175 : x12_2 < (x7_2.length : Int) := of_decide_eq_true (by (with_reducible assumption))
               obtain ⟨ad175, e175, hx175_0⟩ := Kd.at_int (Kd.R_reads' HO_7.out).2.2 x12_2 p175 q175
               cases e175
               replace p175 := eq_true p175
               replace q175 := eq_true q175
               go_wp2
               go_meet
               case rel => exact ⟨_, (false), (by (rfl)), H', ⟨by have := HK1.out; have := HK2.out; (omega)⟩, ⟨HO_0.out⟩, ⟨HO_6.out⟩, ⟨HO_7.out⟩, ⟨HO_8.out⟩, ⟨HB.out⟩⟩
             ·rw [if_neg c26] at H
              exact absurd H (by simp)
            ·rw [if_neg c25] at H
             exact absurd H (by simp)
           case rest =>
            clear HC24
            try clear c23b0
            obtain ⟨kq, x53_23, rfl, HA, HJ23, HO_0, HO_6, HO_7, HO_8, HB⟩ := hcut
            cases kq with
            | zero => exact absurd HA.out (by simp [hortatorlaw9_DemandRun.j2])
            | succ kj23 =>
             have H := HA.out
             clear HA
             simp only [hortatorlaw9_DemandRun.j2] at H
             by_cases c32 : x53_23 = true
             ·subst c32
              have H1 : (none) = some r := by rw [if_pos rfl] at H; exact H
              clear H
              have H := H1
              clear H1
              exact absurd H (by simp)
             ·replace c32 := Bool.eq_false_iff.mpr c32
              subst c32
              have H1 : (if 0 ≤ x12_2 then (if x12_2 < (x7_2.length : Int) then (if (rd x7_2 x12_2) = 0 then (if x12_2 < (x6_2.length : Int) then (hortatorlaw9_DemandRun.j3 kj23 t160 l1 x6_2 x7_2 x8_2 x9_2 x10_1 x11_2 x12_2 (decide ((rd x6_2 x12_2) ≤ x10_1))) else (none)) else (hortatorlaw9_DemandRun.j3 kj23 t160 l1 x6_2 x7_2 x8_2 x9_2 x10_1 x11_2 x12_2 false)) else (none)) else (none)) = some r := by rw [if_neg (show ¬ (false = true) by decide)] at H; exact H
              clear H
              have H := H1
              clear H1
              have HC33 := Aside0.mk H
              clear H
              go_upto_region 18 with (fail)
              go_cut [66] (fun v66 wc => ∃ (kq : Nat) (x66_32 : Bool), v66 = .bool x66_32 ∧ Aside0 (hortatorlaw9_DemandRun.j3 kq t160 l1 x6_2 x7_2 x8_2 x9_2 x10_1 x11_2 x12_2 x66_32 = some r) ∧ Aside0 (kq ≤ kj23) ∧ Aside0 (Kd.R k31 31 wc w.heap.size (fun _ => True) (.slice Ao12 t160.length co12) t160) ∧ Aside0 (Kd.R (Kd.int .i64) 2 wc w.heap.size (fun k_ => some k_ ≠ (v168 : Value).ownBlock ∧ some k_ ≠ (v171 : Value).ownBlock) v165 x6_2) ∧ Aside0 (Kd.R (Kd.int .i64) 2 wc w.heap.size (fun k_ => some k_ ≠ (v165 : Value).ownBlock ∧ some k_ ≠ (v171 : Value).ownBlock) v168 x7_2) ∧ Aside0 (Kd.R (Kd.int .i64) 2 wc w.heap.size (fun k_ => some k_ ≠ (v165 : Value).ownBlock ∧ some k_ ≠ (v168 : Value).ownBlock) v171 x8_2) ∧ Aside0 (Below w.heap.size w wc))
              case first =>
               have H := HC33.out
               clear HC33
               by_cases c34 : 0 ≤ x12_2
               ·rw [if_pos c34] at H
                have c34b0 : decide (0 ≤ x12_2) = true := decide_eq_true c34
                clear c34
                ((skip))
                by_cases c35 : x12_2 < (x7_2.length : Int)
                ·rw [if_pos c35] at H
                 have c35b0 : decide (x12_2 < (x7_2.length : Int)) = true := decide_eq_true c35
                 clear c35
                 by_cases c36 : (rd x7_2 x12_2) = 0
                 ·rw [if_pos c36] at H
                  have c36b0 : ((rd x7_2 x12_2) == 0) = true := beq_iff_eq.mpr c36
                  have c36b1 : ((rd x7_2 x12_2) != 0) = false := bne_eq_false_iff_eq.mpr c36
                  clear c36
                  by_cases c37 : x12_2 < (x6_2.length : Int)
                  ·rw [if_pos c37] at H
                   have c37b0 : decide (x12_2 < (x6_2.length : Int)) = true := decide_eq_true c37
                   clear c37
                   have H' := Aside0.mk H
                   clear H
                   obtain ⟨Ao38, co38, eo38⟩ := Kd.R_slice HO_7.out
                   subst eo38
                   have p177 : 0 ≤ (x12_2 : Int) := of_decide_eq_true (by (with_reducible assumption))
                   have q177 : x12_2 < (x7_2.length : Int) := of_decide_eq_true (by (with_reducible assumption))
                   obtain ⟨ad177, e177, hx177_0⟩ := Kd.at_int (Kd.R_reads' HO_7.out).2.2 x12_2 p177 q177
                   cases e177
                   replace p177 := eq_true p177
                   replace q177 := eq_true q177
                   obtain ⟨Ao39, co39, eo39⟩ := Kd.R_slice HO_6.out
                   subst eo39
                   have p178 : 0 ≤ (x12_2 : Int) := of_decide_eq_true (by (with_reducible assumption))
                   have q178 : x12_2 < (x6_2.length : Int) := of_decide_eq_true (by (with_reducible assumption))
                   obtain ⟨ad178, e178, hx178_0⟩ := Kd.at_int (Kd.R_reads' HO_6.out).2.2 x12_2 p178 q178
                   cases e178
                   replace p178 := eq_true p178
                   replace q178 := eq_true q178
                   go_wp2
                   go_meet
                   case rel => exact ⟨_, (decide ((rd x6_2 x12_2) ≤ x10_1)), (by (rfl)), H', ⟨by have := HK1.out; have := HK2.out; have := HJ23.out; (omega)⟩, ⟨HO_0.out⟩, ⟨HO_6.out⟩, ⟨HO_7.out⟩, ⟨HO_8.out⟩, ⟨HB.out⟩⟩
                  ·rw [if_neg c37] at H
                   exact absurd H (by simp)
                 ·rw [if_neg c36] at H
                  have c36b0 : ((rd x7_2 x12_2) == 0) = false := beq_eq_false_iff_ne.mpr c36
                  have c36b1 : ((rd x7_2 x12_2) != 0) = true := bne_iff_ne.mpr c36
                  have H' := Aside0.mk H
                  clear H
                  obtain ⟨Ao40, co40, eo40⟩ := Kd.R_slice HO_7.out
                  subst eo40
                  have p177 : 0 ≤ (x12_2 : Int) := of_decide_eq_true (by (with_reducible assumption))
                  have q177 : x12_2 < (x7_2.length : Int) := of_decide_eq_true (by (with_reducible assumption))
                  obtain ⟨ad177, e177, hx177_0⟩ := Kd.at_int (Kd.R_reads' HO_7.out).2.2 x12_2 p177 q177
                  cases e177
                  replace p177 := eq_true p177
                  replace q177 := eq_true q177
                  go_wp2
                  go_meet
                  case rel => exact ⟨_, (false), (by (rfl)), H', ⟨by have := HK1.out; have := HK2.out; have := HJ23.out; (omega)⟩, ⟨HO_0.out⟩, ⟨HO_6.out⟩, ⟨HO_7.out⟩, ⟨HO_8.out⟩, ⟨HB.out⟩⟩
                ·rw [if_neg c35] at H
                 exact absurd H (by simp)
               ·rw [if_neg c34] at H
                exact absurd H (by simp)
              case rest =>
               clear HC33
               obtain ⟨kq, x66_32, rfl, HA, HJ32, HO_0, HO_6, HO_7, HO_8, HB⟩ := hcut
               cases kq with
               | zero => exact absurd HA.out (by simp [hortatorlaw9_DemandRun.j3])
               | succ kj32 =>
                have H := HA.out
                clear HA
                simp only [hortatorlaw9_DemandRun.j3] at H
                by_cases c41 : x66_32 = true
                ·subst c41
                 have H1 : (if x9_2 < (l1.length : Int) then (if 0 ≤ x9_2 then (if 0 ≤ x12_2 then (if x12_2 < (t160.length : Int) then (if x12_2 < (x7_2.length : Int) then ((some (x7_2.set (x12_2 : Int).toNat ((rd_T31 t160 x12_2).f0) : List Int)).bind fun y183 => (if x12_2 < (x8_2.length : Int) then ((some (x8_2.set (x12_2 : Int).toNat (wrap64 (x10_1 + ((rd_T31 t160 x12_2).f1))) : List Int)).bind fun y184 => (if x12_2 < (x6_2.length : Int) then ((some (x6_2.set (x12_2 : Int).toNat (wrap64 ((wrap64 (x10_1 + ((rd_T31 t160 x12_2).f2))) + (Go.bits .and .i64 (rd l1 x9_2) 15))) : List Int)).bind fun y185 => (if (rd y183 x12_2) > 0 then (if x11_2 < 0 then (hortatorlaw9_DemandRun.l1 kj32 t160 l1 y185 y183 y184 (wrap64 (x9_2 + 1)) x10_1 x12_2 (wrap64 (x12_2 + 1))) else (if 0 ≤ x11_2 then (if x11_2 < (x8_2.length : Int) then (if (rd y184 x12_2) < (rd y184 x11_2) then (hortatorlaw9_DemandRun.l1 kj32 t160 l1 y185 y183 y184 (wrap64 (x9_2 + 1)) x10_1 x12_2 (wrap64 (x12_2 + 1))) else (hortatorlaw9_DemandRun.l1 kj32 t160 l1 y185 y183 y184 (wrap64 (x9_2 + 1)) x10_1 x11_2 (wrap64 (x12_2 + 1)))) else (none)) else (none))) else (hortatorlaw9_DemandRun.l1 kj32 t160 l1 y185 y183 y184 (wrap64 (x9_2 + 1)) x10_1 x11_2 (wrap64 (x12_2 + 1))))) else (none))) else (none))) else (none)) else (none)) else (none)) else (none)) else (if 0 ≤ x12_2 then (if x12_2 < (t160.length : Int) then (if x12_2 < (x7_2.length : Int) then ((some (x7_2.set (x12_2 : Int).toNat ((rd_T31 t160 x12_2).f0) : List Int)).bind fun y192 => (if x12_2 < (x8_2.length : Int) then ((some (x8_2.set (x12_2 : Int).toNat (wrap64 (x10_1 + ((rd_T31 t160 x12_2).f1))) : List Int)).bind fun y193 => (if x12_2 < (x6_2.length : Int) then ((some (x6_2.set (x12_2 : Int).toNat (wrap64 (wrap64 (x10_1 + ((rd_T31 t160 x12_2).f2)))) : List Int)).bind fun y194 => (if (rd y192 x12_2) > 0 then (if x11_2 < 0 then (hortatorlaw9_DemandRun.l1 kj32 t160 l1 y194 y192 y193 (wrap64 (x9_2 + 1)) x10_1 x12_2 (wrap64 (x12_2 + 1))) else (if 0 ≤ x11_2 then (if x11_2 < (x8_2.length : Int) then (if (rd y193 x12_2) < (rd y193 x11_2) then (hortatorlaw9_DemandRun.l1 kj32 t160 l1 y194 y192 y193 (wrap64 (x9_2 + 1)) x10_1 x12_2 (wrap64 (x12_2 + 1))) else (hortatorlaw9_DemandRun.l1 kj32 t160 l1 y194 y192 y193 (wrap64 (x9_2 + 1)) x10_1 x11_2 (wrap64 (x12_2 + 1)))) else (none)) else (none))) else (hortatorlaw9_DemandRun.l1 kj32 t160 l1 y194 y192 y193 (wrap64 (x9_2 + 1)) x10_1 x11_2 (wrap64 (x12_2 + 1))))) else (none))) else (none))) else (none)) else (none)) else (none))) = some r := by rw [if_pos rfl] at H; exact H
                 clear H
                 have H := H1
                 clear H1
                 by_cases c42 : x9_2 < (l1.length : Int)
                 ·rw [if_pos c42] at H
                  have c42b0 : decide (x9_2 < (l1.length : Int)) = true := decide_eq_true c42
                  clear c42
                  by_cases c43 : 0 ≤ x9_2
                  ·rw [if_pos c43] at H
                   have c43b0 : decide (0 ≤ x9_2) = true := decide_eq_true c43
                   clear c43
                   by_cases c44 : 0 ≤ x12_2
                   ·rw [if_pos c44] at H
                    have c44b0 : decide (0 ≤ x12_2) = true := decide_eq_true c44
                    clear c44
                    by_cases c45 : x12_2 < (t160.length : Int)
                    ·rw [if_pos c45] at H
                     have c45b0 : decide (x12_2 < (t160.length : Int)) = true := decide_eq_true c45
                     clear c45
                     by_cases c46 : x12_2 < (x7_2.length : Int)
                     ·rw [if_pos c46] at H
                      have c46b0 : decide (x12_2 < (x7_2.length : Int)) = true := decide_eq_true c46
                      clear c46
                      obtain ⟨y183, hy183⟩ : ∃ y_ : List Int, y_ = (x7_2.set (x12_2 : Int).toNat ((rd_T31 t160 x12_2).f0)) := ⟨_, rfl⟩
                      replace H : (if x12_2 < (x8_2.length : Int) then ((some (x8_2.set (x12_2 : Int).toNat (wrap64 (x10_1 + ((rd_T31 t160 x12_2).f1))) : List Int)).bind fun y184 => (if x12_2 < (x6_2.length : Int) then ((some (x6_2.set (x12_2 : Int).toNat (wrap64 ((wrap64 (x10_1 + ((rd_T31 t160 x12_2).f2))) + (Go.bits .and .i64 (rd l1 x9_2) 15))) : List Int)).bind fun y185 => (if (rd y183 x12_2) > 0 then (if x11_2 < 0 then (hortatorlaw9_DemandRun.l1 kj32 t160 l1 y185 y183 y184 (wrap64 (x9_2 + 1)) x10_1 x12_2 (wrap64 (x12_2 + 1))) else (if 0 ≤ x11_2 then (if x11_2 < (x8_2.length : Int) then (if (rd y184 x12_2) < (rd y184 x11_2) then (hortatorlaw9_DemandRun.l1 kj32 t160 l1 y185 y183 y184 (wrap64 (x9_2 + 1)) x10_1 x12_2 (wrap64 (x12_2 + 1))) else (hortatorlaw9_DemandRun.l1 kj32 t160 l1 y185 y183 y184 (wrap64 (x9_2 + 1)) x10_1 x11_2 (wrap64 (x12_2 + 1)))) else (none)) else (none))) else (hortatorlaw9_DemandRun.l1 kj32 t160 l1 y185 y183 y184 (wrap64 (x9_2 + 1)) x10_1 x11_2 (wrap64 (x12_2 + 1))))) else (none))) else (none)) = some r := by (have H2_ := (Option.bind_some _ _).symm.trans H; rw [hy183]; with_reducible exact H2_)
                      have Ny183 := Aside0.mk hy183
                      clear hy183
                      by_cases c48 : x12_2 < (x8_2.length : Int)
                      ·rw [if_pos c48] at H
                       have c48b0 : decide (x12_2 < (x8_2.length : Int)) = true := decide_eq_true c48
                       clear c48
                       obtain ⟨y184, hy184⟩ : ∃ y_ : List Int, y_ = (x8_2.set (x12_2 : Int).toNat (wrap64 (x10_1 + ((rd_T31 t160 x12_2).f1)))) := ⟨_, rfl⟩
                       replace H : (if x12_2 < (x6_2.length : Int) then ((some (x6_2.set (x12_2 : Int).toNat (wrap64 ((wrap64 (x10_1 + ((rd_T31 t160 x12_2).f2))) + (Go.bits .and .i64 (rd l1 x9_2) 15))) : List Int)).bind fun y185 => (if (rd y183 x12_2) > 0 then (if x11_2 < 0 then (hortatorlaw9_DemandRun.l1 kj32 t160 l1 y185 y183 y184 (wrap64 (x9_2 + 1)) x10_1 x12_2 (wrap64 (x12_2 + 1))) else (if 0 ≤ x11_2 then (if x11_2 < (x8_2.length : Int) then (if (rd y184 x12_2) < (rd y184 x11_2) then (hortatorlaw9_DemandRun.l1 kj32 t160 l1 y185 y183 y184 (wrap64 (x9_2 + 1)) x10_1 x12_2 (wrap64 (x12_2 + 1))) else (hortatorlaw9_DemandRun.l1 kj32 t160 l1 y185 y183 y184 (wrap64 (x9_2 + 1)) x10_1 x11_2 (wrap64 (x12_2 + 1)))) else (none)) else (none))) else (hortatorlaw9_DemandRun.l1 kj32 t160 l1 y185 y183 y184 (wrap64 (x9_2 + 1)) x10_1 x11_2 (wrap64 (x12_2 + 1))))) else (none)) = some r := by (have H2_ := (Option.bind_some _ _).symm.trans H; rw [hy184]; with_reducible exact H2_)
                       have Ny184 := Aside0.mk hy184
                       clear hy184
                       by_cases c50 : x12_2 < (x6_2.length : Int)
                       ·rw [if_pos c50] at H
                        have c50b0 : decide (x12_2 < (x6_2.length : Int)) = true := decide_eq_true c50
                        clear c50
                        obtain ⟨y185, hy185⟩ : ∃ y_ : List Int, y_ = (x6_2.set (x12_2 : Int).toNat (wrap64 ((wrap64 (x10_1 + ((rd_T31 t160 x12_2).f2))) + (Go.bits .and .i64 (rd l1 x9_2) 15)))) := ⟨_, rfl⟩
                        replace H : (if (rd y183 x12_2) > 0 then (if x11_2 < 0 then (hortatorlaw9_DemandRun.l1 kj32 t160 l1 y185 y183 y184 (wrap64 (x9_2 + 1)) x10_1 x12_2 (wrap64 (x12_2 + 1))) else (if 0 ≤ x11_2 then (if x11_2 < (x8_2.length : Int) then (if (rd y184 x12_2) < (rd y184 x11_2) then (hortatorlaw9_DemandRun.l1 kj32 t160 l1 y185 y183 y184 (wrap64 (x9_2 + 1)) x10_1 x12_2 (wrap64 (x12_2 + 1))) else (hortatorlaw9_DemandRun.l1 kj32 t160 l1 y185 y183 y184 (wrap64 (x9_2 + 1)) x10_1 x11_2 (wrap64 (x12_2 + 1)))) else (none)) else (none))) else (hortatorlaw9_DemandRun.l1 kj32 t160 l1 y185 y183 y184 (wrap64 (x9_2 + 1)) x10_1 x11_2 (wrap64 (x12_2 + 1)))) = some r := by (have H2_ := (Option.bind_some _ _).symm.trans H; rw [hy185]; with_reducible exact H2_)
                        have Ny185 := Aside0.mk hy185
                        clear hy185
                        by_cases c52 : (rd y183 x12_2) > 0
                        ·rw [if_pos c52] at H
                         have c52b0 : decide (0 < (rd y183 x12_2)) = true := decide_eq_true c52
                         clear c52
                         by_cases c53 : x11_2 < 0
                         ·as_aux_lemma =>
                          rw [if_pos c53] at H
                          have c53b0 : decide (x11_2 < 0) = true := decide_eq_true c53
                          clear c53
                          have H' := Aside0.mk H
                          clear H
                          have p179 : 0 ≤ (x9_2 : Int) := of_decide_eq_true (by (with_reducible assumption))
                          have q179 : x9_2 < (l1.length : Int) := of_decide_eq_true (by (with_reducible assumption))
                          obtain ⟨ad179, e179, hx179_0⟩ := Kd.at_int HR1.out x9_2 p179 q179
                          cases e179
                          replace hx179_0 := (HB.out.cell (World.block_lt_of_cell? w _ hx179_0)).trans hx179_0
                          replace p179 := eq_true p179
                          replace q179 := eq_true q179
                          try go_wp2
                          replace HO_0 := Aside0.mk (Kd.R_drew HO_0.out)
                          replace HO_6 := Aside0.mk (Kd.R_drew HO_6.out)
                          replace HO_7 := Aside0.mk (Kd.R_drew HO_7.out)
                          replace HO_8 := Aside0.mk (Kd.R_drew HO_8.out)
                          replace HB := Aside0.mk (below_drew1 HB.out)
                          have p180 : 0 ≤ (x12_2 : Int) := of_decide_eq_true (by (with_reducible assumption))
                          have q180 : x12_2 < (t160.length : Int) := of_decide_eq_true (by (with_reducible assumption))
                          obtain ⟨ad180, e180, hx180_0, hx180_1, hx180_2⟩ := at_T31 (Kd.R_reads' HO_0.out).2.2 x12_2 p180 q180
                          cases e180
                          replace p180 := eq_true p180
                          replace q180 := eq_true q180
                          have p181 : 0 ≤ (x12_2 : Int) := of_decide_eq_true (by (with_reducible assumption))
                          have q181 : x12_2 < (t160.length : Int) := of_decide_eq_true (by (with_reducible assumption))
                          obtain ⟨ad181, e181, hx181_0, hx181_1, hx181_2⟩ := at_T31 (Kd.R_reads' HO_0.out).2.2 x12_2 p181 q181
                          obtain rfl : ad180 = ad181 := (by injection e181)
                          replace p181 := eq_true p181
                          replace q181 := eq_true q181
                          have p182 : 0 ≤ (x12_2 : Int) := of_decide_eq_true (by (with_reducible assumption))
                          have q182 : x12_2 < (t160.length : Int) := of_decide_eq_true (by (with_reducible assumption))
                          obtain ⟨ad182, e182, hx182_0, hx182_1, hx182_2⟩ := at_T31 (Kd.R_reads' HO_0.out).2.2 x12_2 p182 q182
                          obtain rfl : ad180 = ad182 := (by injection e182)
                          replace p182 := eq_true p182
                          replace q182 := eq_true q182
                          have p47 : 0 ≤ (x12_2 : Int) := of_decide_eq_true (by (with_reducible assumption))
                          have q47 : (x12_2 : Int) < ((x7_2.length : Int) : Int) := of_decide_eq_true (by (with_reducible assumption))
                          obtain ⟨go47, co47, eo47, gb47, gl47, cl47, HG47⟩ := Kd.R_form HO_7.out (by omega)
                          ((cases eo47))
                          have GB47 := Aside0.mk gb47
                          have GG47 := Aside0.mk HG47
                          clear gb47 gl47 HG47
                          obtain ⟨hx47_0, hf47_0⟩ := Kd.R_celln 0 HO_7.out (x12_2 : Int) p47 q47
                          replace p47 := eq_true p47
                          replace q47 := eq_true q47
                          have HP55 := Kd.R_putn HO_7.out (x12_2 : Int) ((rd_T31 t160 x12_2).f0)
                          rw [← Ny183.out] at HP55
                          have HQ55 := Aside0.mk HP55
                          clear HP55
                          have p49 : 0 ≤ (x12_2 : Int) := of_decide_eq_true (by (with_reducible assumption))
                          have q49 : (x12_2 : Int) < ((x8_2.length : Int) : Int) := of_decide_eq_true (by (with_reducible assumption))
                          obtain ⟨go49, co49, eo49, gb49, gl49, cl49, HG49⟩ := Kd.R_form HO_8.out (by omega)
                          ((cases eo49))
                          have GB49 := Aside0.mk gb49
                          have GG49 := Aside0.mk HG49
                          clear gb49 gl49 HG49
                          obtain ⟨hx49_0, hf49_0⟩ := Kd.R_celln 0 (Kd.R_far (p := ⟨go47, (x12_2 : Int).toNat, none⟩) (Kd.R_mono HO_8.out (fun k_ hk => (⟨hk, fun e_ => hk.2 (by rw [e_]; rfl)⟩ : _ ∧ k_ ≠ go47))) (fun _ hk => hk.2) (.int .i64 ((rd_T31 t160 x12_2).f0))) (x12_2 : Int) p49 q49
                          replace p49 := eq_true p49
                          replace q49 := eq_true q49
                          have HP56 := Kd.R_putn (Kd.R_far (p := ⟨go47, (x12_2 : Int).toNat, none⟩) (Kd.R_mono HO_8.out (fun k_ hk => (⟨hk, fun e_ => hk.2 (by rw [e_]; rfl)⟩ : _ ∧ k_ ≠ go47))) (fun _ hk => hk.2) (.int .i64 ((rd_T31 t160 x12_2).f0))) (x12_2 : Int) (wrap64 (x10_1 + ((rd_T31 t160 x12_2).f1)))
                          rw [← Ny184.out] at HP56
                          have HQ56 := Aside0.mk HP56
                          clear HP56
                          have p51 : 0 ≤ (x12_2 : Int) := of_decide_eq_true (by (with_reducible assumption))
                          have q51 : (x12_2 : Int) < ((x6_2.length : Int) : Int) := of_decide_eq_true (by (with_reducible assumption))
                          obtain ⟨go51, co51, eo51, gb51, gl51, cl51, HG51⟩ := Kd.R_form HO_6.out (by omega)
                          ((cases eo51))
                          have GB51 := Aside0.mk gb51
                          have GG51 := Aside0.mk HG51
                          clear gb51 gl51 HG51
                          obtain ⟨hx51_0, hf51_0⟩ := Kd.R_celln 0 (Kd.R_far (p := ⟨go49, (x12_2 : Int).toNat, none⟩) (Kd.R_far (p := ⟨go47, (x12_2 : Int).toNat, none⟩) (Kd.R_mono (Kd.R_mono HO_6.out (fun k_ hk => (⟨hk, fun e_ => hk.1 (by rw [e_]; rfl)⟩ : _ ∧ k_ ≠ go47))) (fun k_ hk => (⟨hk, fun e_ => hk.1.2 (by rw [e_]; rfl)⟩ : _ ∧ k_ ≠ go49))) (fun _ hk => hk.1.2) (.int .i64 ((rd_T31 t160 x12_2).f0))) (fun _ hk => hk.2) (.int .i64 (wrap64 (x10_1 + ((rd_T31 t160 x12_2).f1))))) (x12_2 : Int) p51 q51
                          replace p51 := eq_true p51
                          replace q51 := eq_true q51
                          have HP57 := Kd.R_putn (Kd.R_far (p := ⟨go49, (x12_2 : Int).toNat, none⟩) (Kd.R_far (p := ⟨go47, (x12_2 : Int).toNat, none⟩) (Kd.R_mono (Kd.R_mono HO_6.out (fun k_ hk => (⟨hk, fun e_ => hk.1 (by rw [e_]; rfl)⟩ : _ ∧ k_ ≠ go47))) (fun k_ hk => (⟨hk, fun e_ => hk.1.2 (by rw [e_]; rfl)⟩ : _ ∧ k_ ≠ go49))) (fun _ hk => hk.1.2) (.int .i64 ((rd_T31 t160 x12_2).f0))) (fun _ hk => hk.2) (.int .i64 (wrap64 (x10_1 + ((rd_T31 t160 x12_2).f1))))) (x12_2 : Int) (wrap64 ((wrap64 (x10_1 + ((rd_T31 t160 x12_2).f2))) + (Go.bits .and .i64 (rd l1 x9_2) 15)))
                          rw [← Ny185.out] at HP57
                          have HQ57 := Aside0.mk HP57
                          clear HP57
                          refine start_ (n := 33) (S := fun w' => w'.cell? (ad180.add ((x12_2).toNat * 3)) = some (.int .i64 ((rd_T31 t160 x12_2).f0)) ∧ w'.cell? ⟨(ad180.add ((x12_2).toNat * 3)).block, (ad180.add ((x12_2).toNat * 3)).off + 1, none⟩ = some (.int .i64 ((rd_T31 t160 x12_2).f1)) ∧ w'.cell? ⟨(ad180.add ((x12_2).toNat * 3)).block, (ad180.add ((x12_2).toNat * 3)).off + 2, none⟩ = some (.int .i64 ((rd_T31 t160 x12_2).f2)) ∧ w'.cell? (ad180.add ((x12_2).toNat * 3)) = some (.int .i64 ((rd_T31 t160 x12_2).f0)) ∧ w'.cell? ⟨(ad180.add ((x12_2).toNat * 3)).block, (ad180.add ((x12_2).toNat * 3)).off + 1, none⟩ = some (.int .i64 ((rd_T31 t160 x12_2).f1)) ∧ w'.cell? ⟨(ad180.add ((x12_2).toNat * 3)).block, (ad180.add ((x12_2).toNat * 3)).off + 2, none⟩ = some (.int .i64 ((rd_T31 t160 x12_2).f2)) ∧ w'.cell? (ad180.add ((x12_2).toNat * 3)) = some (.int .i64 ((rd_T31 t160 x12_2).f0)) ∧ w'.cell? ⟨(ad180.add ((x12_2).toNat * 3)).block, (ad180.add ((x12_2).toNat * 3)).off + 1, none⟩ = some (.int .i64 ((rd_T31 t160 x12_2).f1)) ∧ w'.cell? ⟨(ad180.add ((x12_2).toNat * 3)).block, (ad180.add ((x12_2).toNat * 3)).off + 2, none⟩ = some (.int .i64 ((rd_T31 t160 x12_2).f2))) (ds := [28, 30, 32]) (bs 33 0) (by kernel_rfl) rfl rfl ⟨hx180_0, hx180_1, hx180_2, hx181_0, hx181_1, hx181_2, hx182_0, hx182_1, hx182_2⟩ (fun hHeld => ?_); refine with_tabW hortatorlaw9_DemandRun.tab23 hortatorlaw9_DemandRun.bits23 (fun HT_ HW_ => ?_)
                          generalize wc.drew = w54 at HO_0 HO_6 HO_7 HO_8 HB GG47 GG49 GG51 HQ55 HQ56 HQ57 hf47_0 hf49_0 hf51_0 hx180_0 hx180_1 hx180_2 hx181_0 hx181_1 hx181_2 hx182_0 hx182_1 hx182_2 hx47_0 hx49_0 hx51_0 hHeld ⊢
                          refine pureA_ (i := 0) (N := some 78) (bs 33 1) HT_ ?_
                          refine pureA_ (i := 1) (N := some 79) (bs 33 3) HT_ ?_
                          refine pureA_ (i := 2) (N := some 80) (bs 33 7) HT_ ?_
                          refine pureA_ (i := 3) (N := some 81) (bs 33 15) HT_ ?_
                          refine pureA_ (i := 4) (N := some 82) (bs 33 31) HT_ ?_
                          refine pureA_ (i := 5) (N := some 83) (bs 33 63) HT_ ?_
                          refine pureA_ (i := 6) (N := some 84) (bs 33 127) HT_ ?_
                          refine pureA_ (i := 7) (N := some 85) (bs 33 255) HT_ ?_
                          refine pureA_ (i := 8) (N := some 86) (bs 33 511) HT_ ?_
                          refine pureA_ (i := 9) (N := some 87) (bs 33 1023) HT_ ?_
                          refine pureA_ (i := 11) (N := some 89) (bs 33 3071) HT_ ?_
                          refine pureA_ (i := 12) (N := some 90) (bs 33 7167) HT_ ?_
                          refine pureA_ (i := 13) (N := some 91) (bs 33 15359) HT_ ?_
                          refine pureA_ (i := 14) (N := some 92) (bs 33 31743) HT_ ?_
                          refine pureA_ (i := 15) (N := some 93) (bs 33 64511) HT_ ?_
                          refine pureA_ (i := 18) (N := some 96) (bs 33 326655) HT_ ?_
                          refine pureA_ (i := 19) (N := some 97) (bs 33 850943) HT_ ?_
                          refine pureA_ (i := 20) (N := some 98) (bs 33 1899519) HT_ ?_
                          refine pureA_ (i := 21) (N := some 99) (bs 33 3996671) HT_ ?_
                          refine pureA_ (i := 22) (N := some 100) (bs 33 8190975) HT_ ?_
                          refine pureA_ (i := 25) (N := some 103) (bs 33 41745407) HT_ ?_
                          refine takeA_ (i := 10) (N := some 88) (bs 33 41746431) HT_ HW_ hHeld ?_
                          refine takeA_ (i := 16) (N := some 94) (bs 33 41811967) HT_ HW_ hHeld ?_
                          refine pureA_ (i := 17) (N := some 95) (bs 33 41943039) HT_ ?_
                          refine takeA_ (i := 23) (N := some 101) (bs 33 50331647) HT_ HW_ hHeld ?_
                          refine pureA_ (i := 24) (N := some 102) (bs 33 67108863) HT_ ?_
                          refine pureA_ (i := 26) (N := some 104) (bs 33 134217727) HT_ ?_
                          refine pureA_ (i := 27) (N := some 105) (bs 33 268435455) HT_ ?_
                          refine last_ (i := 28) (N := none) (bs 33 536870911) rfl rfl (one_of HT_.out (by kernel_rfl)) (by decide) (fun K hK => ?_)
                          refine skip_ (w1 := ?_) (by rfl) rfl ?_ ?_
                          rotate_left
                          ·go_simp
                           rfl
                          refine hK.out _ _ ?_
                          clear hK K
                          refine pureA_ (i := 29) (N := some 106) (bs 33 1073741823) HT_ ?_
                          refine last_ (i := 30) (N := none) (bs 33 2147483647) rfl rfl (one_of HT_.out (by kernel_rfl)) (by decide) (fun K hK => ?_)
                          refine skip_ (w1 := ?_) (by rfl) rfl ?_ ?_
                          rotate_left
                          ·go_simp
                           rfl
                          refine hK.out _ _ ?_
                          clear hK K
                          refine pureA_ (i := 31) (N := some 107) (bs 33 4294967295) HT_ ?_
                          refine last_ (i := 32) (N := none) (bs 33 8589934591) rfl rfl (one_of HT_.out (by kernel_rfl)) (by decide) (fun K hK => ?_)
                          refine skip_ (w1 := ?_) (by rfl) rfl ?_ ?_
                          rotate_left
                          ·go_simp
                           rfl
                          refine hK.out _ _ ?_
                          clear hK K
                          refine done_ (done_of HT_.out (by kernel_rfl)) ?_
                          try go_wp2
                          have n0_ : Aside0 (Kd.R k31 31 (((w54.setCell ⟨go47, (x12_2 : Int).toNat, none⟩ (.int .i64 ((rd_T31 t160 x12_2).f0))).setCell ⟨go49, (x12_2 : Int).toNat, none⟩ (.int .i64 (wrap64 (x10_1 + ((rd_T31 t160 x12_2).f1))))).setCell ⟨go51, (x12_2 : Int).toNat, none⟩ (.int .i64 (wrap64 ((wrap64 (x10_1 + ((rd_T31 t160 x12_2).f2))) + (Go.bits .and .i64 (rd l1 x9_2) 15))))) w.heap.size (fun _ => True) (.slice (some ad180) t160.length co12) t160) := ⟨by exact Kd.R_mono (Kd.R_far (p := ⟨go51, (x12_2 : Int).toNat, none⟩) (Kd.R_far (p := ⟨go49, (x12_2 : Int).toNat, none⟩) (Kd.R_far (p := ⟨go47, (x12_2 : Int).toNat, none⟩) (Kd.R_types (Kd.R_types (Kd.R_types HO_0.out GG47.out (by decide)) GG49.out (by decide)) GG51.out (by decide)) (fun _ hk => hk.1.1.2) (.int .i64 ((rd_T31 t160 x12_2).f0))) (fun _ hk => hk.1.2) (.int .i64 (wrap64 (x10_1 + ((rd_T31 t160 x12_2).f1))))) (fun _ hk => hk.2) (.int .i64 (wrap64 ((wrap64 (x10_1 + ((rd_T31 t160 x12_2).f2))) + (Go.bits .and .i64 (rd l1 x9_2) 15))))) (fun _ hk => trivial)⟩
                          have n1_ : Aside0 (Kd.R (Kd.int .i64) 2 (((w54.setCell ⟨go47, (x12_2 : Int).toNat, none⟩ (.int .i64 ((rd_T31 t160 x12_2).f0))).setCell ⟨go49, (x12_2 : Int).toNat, none⟩ (.int .i64 (wrap64 (x10_1 + ((rd_T31 t160 x12_2).f1))))).setCell ⟨go51, (x12_2 : Int).toNat, none⟩ (.int .i64 (wrap64 ((wrap64 (x10_1 + ((rd_T31 t160 x12_2).f2))) + (Go.bits .and .i64 (rd l1 x9_2) 15))))) w.heap.size (fun k_ => some k_ ≠ (.slice (some ⟨go47, 0, none⟩) x7_2.length co47 : Value).ownBlock ∧ some k_ ≠ (.slice (some ⟨go49, 0, none⟩) x8_2.length co49 : Value).ownBlock) (.slice (some ⟨go51, 0, none⟩) x6_2.length co51) y185) := ⟨by exact Kd.R_mono HQ57.out (fun _ hk => ⟨hk.1.1.1, hk.1.1.2⟩)⟩
                          have n2_ : Aside0 (Kd.R (Kd.int .i64) 2 (((w54.setCell ⟨go47, (x12_2 : Int).toNat, none⟩ (.int .i64 ((rd_T31 t160 x12_2).f0))).setCell ⟨go49, (x12_2 : Int).toNat, none⟩ (.int .i64 (wrap64 (x10_1 + ((rd_T31 t160 x12_2).f1))))).setCell ⟨go51, (x12_2 : Int).toNat, none⟩ (.int .i64 (wrap64 ((wrap64 (x10_1 + ((rd_T31 t160 x12_2).f2))) + (Go.bits .and .i64 (rd l1 x9_2) 15))))) w.heap.size (fun k_ => some k_ ≠ (.slice (some ⟨go51, 0, none⟩) x6_2.length co51 : Value).ownBlock ∧ some k_ ≠ (.slice (some ⟨go49, 0, none⟩) x8_2.length co49 : Value).ownBlock) (.slice (some ⟨go47, 0, none⟩) x7_2.length co47) y183) := ⟨by exact Kd.R_mono (Kd.R_far (p := ⟨go51, (x12_2 : Int).toNat, none⟩) (Kd.R_far (p := ⟨go49, (x12_2 : Int).toNat, none⟩) (Kd.R_mono (Kd.R_mono HQ55.out (fun k_ hk => (⟨hk, fun e_ => hk.2 (by rw [e_]; rfl)⟩ : _ ∧ k_ ≠ go49))) (fun k_ hk => (⟨hk, fun e_ => hk.1.1 (by rw [e_]; rfl)⟩ : _ ∧ k_ ≠ go51))) (fun _ hk => hk.1.2) (.int .i64 (wrap64 (x10_1 + ((rd_T31 t160 x12_2).f1))))) (fun _ hk => hk.2) (.int .i64 (wrap64 ((wrap64 (x10_1 + ((rd_T31 t160 x12_2).f2))) + (Go.bits .and .i64 (rd l1 x9_2) 15))))) (fun _ hk => ⟨hk.1.1.1, hk.1.1.2⟩)⟩
                          have n3_ : Aside0 (Kd.R (Kd.int .i64) 2 (((w54.setCell ⟨go47, (x12_2 : Int).toNat, none⟩ (.int .i64 ((rd_T31 t160 x12_2).f0))).setCell ⟨go49, (x12_2 : Int).toNat, none⟩ (.int .i64 (wrap64 (x10_1 + ((rd_T31 t160 x12_2).f1))))).setCell ⟨go51, (x12_2 : Int).toNat, none⟩ (.int .i64 (wrap64 ((wrap64 (x10_1 + ((rd_T31 t160 x12_2).f2))) + (Go.bits .and .i64 (rd l1 x9_2) 15))))) w.heap.size (fun k_ => some k_ ≠ (.slice (some ⟨go51, 0, none⟩) x6_2.length co51 : Value).ownBlock ∧ some k_ ≠ (.slice (some ⟨go47, 0, none⟩) x7_2.length co47 : Value).ownBlock) (.slice (some ⟨go49, 0, none⟩) x8_2.length co49) y184) := ⟨by exact Kd.R_mono (Kd.R_far (p := ⟨go51, (x12_2 : Int).toNat, none⟩) (Kd.R_mono HQ56.out (fun k_ hk => (⟨hk, fun e_ => hk.1.1 (by rw [e_]; rfl)⟩ : _ ∧ k_ ≠ go51))) (fun _ hk => hk.2) (.int .i64 (wrap64 ((wrap64 (x10_1 + ((rd_T31 t160 x12_2).f2))) + (Go.bits .and .i64 (rd l1 x9_2) 15))))) (fun _ hk => ⟨hk.1.1.1, hk.1.1.2⟩)⟩
                          have n4_ : Aside0 (Below w.heap.size w (((w54.setCell ⟨go47, (x12_2 : Int).toNat, none⟩ (.int .i64 ((rd_T31 t160 x12_2).f0))).setCell ⟨go49, (x12_2 : Int).toNat, none⟩ (.int .i64 (wrap64 (x10_1 + ((rd_T31 t160 x12_2).f1))))).setCell ⟨go51, (x12_2 : Int).toNat, none⟩ (.int .i64 (wrap64 ((wrap64 (x10_1 + ((rd_T31 t160 x12_2).f2))) + (Go.bits .and .i64 (rd l1 x9_2) 15)))))) := ⟨by repeat ((with_reducible first | exact HB.out | refine below_set ?_ GB47.out | refine below_set ?_ GB49.out | refine below_set ?_ GB51.out))⟩
                          (try clear HO_0)
                          (try clear HO_6)
                          (try clear HO_7)
                          (try clear HO_8)
                          (try clear HB)
                          generalize (((w54.setCell ⟨go47, (x12_2 : Int).toNat, none⟩ (.int .i64 ((rd_T31 t160 x12_2).f0))).setCell ⟨go49, (x12_2 : Int).toNat, none⟩ (.int .i64 (wrap64 (x10_1 + ((rd_T31 t160 x12_2).f1))))).setCell ⟨go51, (x12_2 : Int).toNat, none⟩ (.int .i64 (wrap64 ((wrap64 (x10_1 + ((rd_T31 t160 x12_2).f2))) + (Go.bits .and .i64 (rd l1 x9_2) 15))))) = w58 at n0_ n1_ n2_ n3_ n4_ ⊢
                          have HO_0 := n0_
                          have HO_6 := n1_
                          have HO_7 := n2_
                          have HO_8 := n3_
                          have HB := n4_
                          clear n0_ n1_ n2_ n3_ n4_
                          replace HO_0 := Aside0.mk (Kd.R_drew HO_0.out)
                          replace HO_6 := Aside0.mk (Kd.R_drew HO_6.out)
                          replace HO_7 := Aside0.mk (Kd.R_drew HO_7.out)
                          replace HO_8 := Aside0.mk (Kd.R_drew HO_8.out)
                          replace HB := Aside0.mk (below_drew1 HB.out)
                          have p186 : 0 ≤ (x12_2 : Int) := of_decide_eq_true (by (with_reducible assumption))
                          have q186 : x12_2 < (y183.length : Int) := (by have h_ : (x12_2 : Int) < ((x7_2.length : Int) : Int) := of_decide_eq_true (by (with_reducible assumption)); (have e_ := (Kd.R_reads' HO_7.out).1; omega))
                          have ql186 : ((x12_2 : Int) < ((x7_2.length : Int) : Int)) = True := eq_true (of_decide_eq_true (by (with_reducible assumption)))
                          obtain ⟨ad186, e186, hx186_0⟩ := Kd.at_int (Kd.R_reads' HO_7.out).2.2 x12_2 p186 q186
                          obtain rfl : (⟨go47, 0, none⟩ : Addr) = ad186 := (by injection e186)
                          ((simp only [add_at] at hx186_0))
                          (try simp only [Nat.zero_add] at hx186_0)
                          replace p186 := eq_true p186
                          replace q186 := eq_true q186
                          refine start_ (n := 20) (S := fun w' => w'.cell? ⟨go47, (x12_2).toNat, none⟩ = some (.int .i64 (rd y183 x12_2))) (ds := []) (bs 20 0) (by kernel_rfl) rfl rfl (hx186_0) (fun hHeld => ?_); refine with_tabW hortatorlaw9_DemandRun.tab24 hortatorlaw9_DemandRun.bits24 (fun HT_ HW_ => ?_)
                          generalize w58.drew = w59 at HO_0 HO_6 HO_7 HO_8 HB HQ55 HQ56 HQ57 hx186_0 hHeld ⊢
                          refine pureA_ (i := 0) (N := some 108) (bs 20 1) HT_ ?_
                          refine pureA_ (i := 1) (N := some 109) (bs 20 3) HT_ ?_
                          refine pureA_ (i := 2) (N := some 110) (bs 20 7) HT_ ?_
                          refine take_ (i := 3) (N := some 111) (v := ?_) (a' := ?_) (bs 20 15) rfl rfl (take_ofW HT_.out HW_.out (by kernel_rfl)) (fun _ _ _ h => h) (Or.inl ⟨by rfl, ?_⟩) hHeld ?_ ?_
                          rotate_left
                          ·intro w' s0
                           go_simp
                           with_reducible rfl
                          rotate_left
                          ·simp only [Act.put, List.setIfInBounds_toArray, List.set_cons_zero, List.set_cons_succ, i64_w, i32_w]
                           rfl
                          refine pureA_ (i := 4) (N := some 112) (bs 20 31) HT_ ?_
                          refine pureA_ (i := 5) (N := some 113) (bs 20 63) HT_ ?_
                          refine pureA_ (i := 6) (N := some 114) (bs 20 127) HT_ ?_
                          refine pureA_ (i := 7) (N := some 115) (bs 20 255) HT_ ?_
                          refine pureA_ (i := 8) (N := some 116) (bs 20 511) HT_ ?_
                          refine pureB_ (i := 9) (N := some 117) (bs 20 1023) HT_ ?_
                          refine pureB_ (i := 10) (N := some 118) (bs 20 2047) HT_ ?_
                          refine pureB_ (i := 11) (N := some 119) (bs 20 4095) HT_ ?_
                          refine pureB_ (i := 12) (N := some 120) (bs 20 8191) HT_ ?_
                          refine pureB_ (i := 13) (N := some 121) (bs 20 16383) HT_ ?_
                          refine pureB_ (i := 14) (N := some 122) (bs 20 32767) HT_ ?_
                          refine pureB_ (i := 15) (N := some 123) (bs 20 65535) HT_ ?_
                          refine pureB_ (i := 16) (N := some 124) (bs 20 131071) HT_ ?_
                          refine pureB_ (i := 17) (N := some 125) (bs 20 262143) HT_ ?_
                          refine pureA_ (i := 18) (N := some 126) (bs 20 524287) HT_ ?_
                          refine pureA_ (i := 19) (N := some 127) (bs 20 1048575) HT_ ?_
                          refine done_ (done_of HT_.out (by kernel_rfl)) ?_
                          try go_wp2
                          go_roundg kj32
                          case measure => have := HK1.out; have := HK2.out; have := HJ23.out; have := HJ32.out; omega
                          case rel => exact ⟨(y185), (y183), (y184), (wrap64 (x9_2 + 1)), (x12_2), (wrap64 (x12_2 + 1)), (by (rfl)), (by (rfl)), (by (rfl)), H', ⟨by have := HK1.out; have := HK2.out; have := HJ23.out; have := HJ32.out; omega⟩, ⟨HO_0.out⟩, ⟨HO_6.out⟩, ⟨HO_7.out⟩, ⟨HO_8.out⟩, ⟨HB.out⟩⟩
                         ·rw [if_neg c53] at H
                          have c53b0 : decide (x11_2 < 0) = false := decide_eq_false c53
                          clear c53
                          by_cases c60 : 0 ≤ x11_2
                          ·rw [if_pos c60] at H
                           have c60b0 : decide (0 ≤ x11_2) = true := decide_eq_true c60
                           clear c60
                           by_cases c61 : x11_2 < (x8_2.length : Int)
                           ·rw [if_pos c61] at H
                            have c61b0 : decide (x11_2 < (x8_2.length : Int)) = true := decide_eq_true c61
                            clear c61
                            by_cases c62 : (rd y184 x12_2) < (rd y184 x11_2)
                            ·as_aux_lemma =>
                             rw [if_pos c62] at H
                             have c62b0 : decide ((rd y184 x12_2) < (rd y184 x11_2)) = true := decide_eq_true c62
                             clear c62
                             have H' := Aside0.mk H
                             clear H
                             have p179 : 0 ≤ (x9_2 : Int) := of_decide_eq_true (by (with_reducible assumption))
                             have q179 : x9_2 < (l1.length : Int) := of_decide_eq_true (by (with_reducible assumption))
                             obtain ⟨ad179, e179, hx179_0⟩ := Kd.at_int HR1.out x9_2 p179 q179
                             cases e179
                             replace hx179_0 := (HB.out.cell (World.block_lt_of_cell? w _ hx179_0)).trans hx179_0
                             replace p179 := eq_true p179
                             replace q179 := eq_true q179
                             try go_wp2
                             replace HO_0 := Aside0.mk (Kd.R_drew HO_0.out)
                             replace HO_6 := Aside0.mk (Kd.R_drew HO_6.out)
                             replace HO_7 := Aside0.mk (Kd.R_drew HO_7.out)
                             replace HO_8 := Aside0.mk (Kd.R_drew HO_8.out)
                             replace HB := Aside0.mk (below_drew1 HB.out)
                             have p180 : 0 ≤ (x12_2 : Int) := of_decide_eq_true (by (with_reducible assumption))
                             have q180 : x12_2 < (t160.length : Int) := of_decide_eq_true (by (with_reducible assumption))
                             obtain ⟨ad180, e180, hx180_0, hx180_1, hx180_2⟩ := at_T31 (Kd.R_reads' HO_0.out).2.2 x12_2 p180 q180
                             cases e180
                             replace p180 := eq_true p180
                             replace q180 := eq_true q180
                             have p181 : 0 ≤ (x12_2 : Int) := of_decide_eq_true (by (with_reducible assumption))
                             have q181 : x12_2 < (t160.length : Int) := of_decide_eq_true (by (with_reducible assumption))
                             obtain ⟨ad181, e181, hx181_0, hx181_1, hx181_2⟩ := at_T31 (Kd.R_reads' HO_0.out).2.2 x12_2 p181 q181
                             obtain rfl : ad180 = ad181 := (by injection e181)
                             replace p181 := eq_true p181
                             replace q181 := eq_true q181
                             have p182 : 0 ≤ (x12_2 : Int) := of_decide_eq_true (by (with_reducible assumption))
                             have q182 : x12_2 < (t160.length : Int) := of_decide_eq_true (by (with_reducible assumption))
                             obtain ⟨ad182, e182, hx182_0, hx182_1, hx182_2⟩ := at_T31 (Kd.R_reads' HO_0.out).2.2 x12_2 p182 q182
                             obtain rfl : ad180 = ad182 := (by injection e182)
                             replace p182 := eq_true p182
                             replace q182 := eq_true q182
                             have p47 : 0 ≤ (x12_2 : Int) := of_decide_eq_true (by (with_reducible assumption))
                             have q47 : (x12_2 : Int) < ((x7_2.length : Int) : Int) := of_decide_eq_true (by (with_reducible assumption))
                             obtain ⟨go47, co47, eo47, gb47, gl47, cl47, HG47⟩ := Kd.R_form HO_7.out (by omega)
                             ((cases eo47))
                             have GB47 := Aside0.mk gb47
                             have GG47 := Aside0.mk HG47
                             clear gb47 gl47 HG47
                             obtain ⟨hx47_0, hf47_0⟩ := Kd.R_celln 0 HO_7.out (x12_2 : Int) p47 q47
                             replace p47 := eq_true p47
                             replace q47 := eq_true q47
                             have HP64 := Kd.R_putn HO_7.out (x12_2 : Int) ((rd_T31 t160 x12_2).f0)
                             rw [← Ny183.out] at HP64
                             have HQ64 := Aside0.mk HP64
                             clear HP64
                             have p49 : 0 ≤ (x12_2 : Int) := of_decide_eq_true (by (with_reducible assumption))
                             have q49 : (x12_2 : Int) < ((x8_2.length : Int) : Int) := of_decide_eq_true (by (with_reducible assumption))
                             obtain ⟨go49, co49, eo49, gb49, gl49, cl49, HG49⟩ := Kd.R_form HO_8.out (by omega)
                             ((cases eo49))
                             have GB49 := Aside0.mk gb49
                             have GG49 := Aside0.mk HG49
                             clear gb49 gl49 HG49
                             obtain ⟨hx49_0, hf49_0⟩ := Kd.R_celln 0 (Kd.R_far (p := ⟨go47, (x12_2 : Int).toNat, none⟩) (Kd.R_mono HO_8.out (fun k_ hk => (⟨hk, fun e_ => hk.2 (by rw [e_]; rfl)⟩ : _ ∧ k_ ≠ go47))) (fun _ hk => hk.2) (.int .i64 ((rd_T31 t160 x12_2).f0))) (x12_2 : Int) p49 q49
                             replace p49 := eq_true p49
                             replace q49 := eq_true q49
                             have HP65 := Kd.R_putn (Kd.R_far (p := ⟨go47, (x12_2 : Int).toNat, none⟩) (Kd.R_mono HO_8.out (fun k_ hk => (⟨hk, fun e_ => hk.2 (by rw [e_]; rfl)⟩ : _ ∧ k_ ≠ go47))) (fun _ hk => hk.2) (.int .i64 ((rd_T31 t160 x12_2).f0))) (x12_2 : Int) (wrap64 (x10_1 + ((rd_T31 t160 x12_2).f1)))
                             rw [← Ny184.out] at HP65
                             have HQ65 := Aside0.mk HP65
                             clear HP65
                             have p51 : 0 ≤ (x12_2 : Int) := of_decide_eq_true (by (with_reducible assumption))
                             have q51 : (x12_2 : Int) < ((x6_2.length : Int) : Int) := of_decide_eq_true (by (with_reducible assumption))
                             obtain ⟨go51, co51, eo51, gb51, gl51, cl51, HG51⟩ := Kd.R_form HO_6.out (by omega)
                             ((cases eo51))
                             have GB51 := Aside0.mk gb51
                             have GG51 := Aside0.mk HG51
                             clear gb51 gl51 HG51
                             obtain ⟨hx51_0, hf51_0⟩ := Kd.R_celln 0 (Kd.R_far (p := ⟨go49, (x12_2 : Int).toNat, none⟩) (Kd.R_far (p := ⟨go47, (x12_2 : Int).toNat, none⟩) (Kd.R_mono (Kd.R_mono HO_6.out (fun k_ hk => (⟨hk, fun e_ => hk.1 (by rw [e_]; rfl)⟩ : _ ∧ k_ ≠ go47))) (fun k_ hk => (⟨hk, fun e_ => hk.1.2 (by rw [e_]; rfl)⟩ : _ ∧ k_ ≠ go49))) (fun _ hk => hk.1.2) (.int .i64 ((rd_T31 t160 x12_2).f0))) (fun _ hk => hk.2) (.int .i64 (wrap64 (x10_1 + ((rd_T31 t160 x12_2).f1))))) (x12_2 : Int) p51 q51
                             replace p51 := eq_true p51
                             replace q51 := eq_true q51
                             have HP66 := Kd.R_putn (Kd.R_far (p := ⟨go49, (x12_2 : Int).toNat, none⟩) (Kd.R_far (p := ⟨go47, (x12_2 : Int).toNat, none⟩) (Kd.R_mono (Kd.R_mono HO_6.out (fun k_ hk => (⟨hk, fun e_ => hk.1 (by rw [e_]; rfl)⟩ : _ ∧ k_ ≠ go47))) (fun k_ hk => (⟨hk, fun e_ => hk.1.2 (by rw [e_]; rfl)⟩ : _ ∧ k_ ≠ go49))) (fun _ hk => hk.1.2) (.int .i64 ((rd_T31 t160 x12_2).f0))) (fun _ hk => hk.2) (.int .i64 (wrap64 (x10_1 + ((rd_T31 t160 x12_2).f1))))) (x12_2 : Int) (wrap64 ((wrap64 (x10_1 + ((rd_T31 t160 x12_2).f2))) + (Go.bits .and .i64 (rd l1 x9_2) 15)))
                             rw [← Ny185.out] at HP66
                             have HQ66 := Aside0.mk HP66
                             clear HP66
                             refine start_ (n := 33) (S := fun w' => w'.cell? (ad180.add ((x12_2).toNat * 3)) = some (.int .i64 ((rd_T31 t160 x12_2).f0)) ∧ w'.cell? ⟨(ad180.add ((x12_2).toNat * 3)).block, (ad180.add ((x12_2).toNat * 3)).off + 1, none⟩ = some (.int .i64 ((rd_T31 t160 x12_2).f1)) ∧ w'.cell? ⟨(ad180.add ((x12_2).toNat * 3)).block, (ad180.add ((x12_2).toNat * 3)).off + 2, none⟩ = some (.int .i64 ((rd_T31 t160 x12_2).f2)) ∧ w'.cell? (ad180.add ((x12_2).toNat * 3)) = some (.int .i64 ((rd_T31 t160 x12_2).f0)) ∧ w'.cell? ⟨(ad180.add ((x12_2).toNat * 3)).block, (ad180.add ((x12_2).toNat * 3)).off + 1, none⟩ = some (.int .i64 ((rd_T31 t160 x12_2).f1)) ∧ w'.cell? ⟨(ad180.add ((x12_2).toNat * 3)).block, (ad180.add ((x12_2).toNat * 3)).off + 2, none⟩ = some (.int .i64 ((rd_T31 t160 x12_2).f2)) ∧ w'.cell? (ad180.add ((x12_2).toNat * 3)) = some (.int .i64 ((rd_T31 t160 x12_2).f0)) ∧ w'.cell? ⟨(ad180.add ((x12_2).toNat * 3)).block, (ad180.add ((x12_2).toNat * 3)).off + 1, none⟩ = some (.int .i64 ((rd_T31 t160 x12_2).f1)) ∧ w'.cell? ⟨(ad180.add ((x12_2).toNat * 3)).block, (ad180.add ((x12_2).toNat * 3)).off + 2, none⟩ = some (.int .i64 ((rd_T31 t160 x12_2).f2))) (ds := [28, 30, 32]) (bs 33 0) (by kernel_rfl) rfl rfl ⟨hx180_0, hx180_1, hx180_2, hx181_0, hx181_1, hx181_2, hx182_0, hx182_1, hx182_2⟩ (fun hHeld => ?_); refine with_tabW hortatorlaw9_DemandRun.tab23 hortatorlaw9_DemandRun.bits23 (fun HT_ HW_ => ?_)
                             generalize wc.drew = w63 at HO_0 HO_6 HO_7 HO_8 HB GG47 GG49 GG51 HQ64 HQ65 HQ66 hf47_0 hf49_0 hf51_0 hx180_0 hx180_1 hx180_2 hx181_0 hx181_1 hx181_2 hx182_0 hx182_1 hx182_2 hx47_0 hx49_0 hx51_0 hHeld ⊢
                             refine pureA_ (i := 0) (N := some 78) (bs 33 1) HT_ ?_
                             refine pureA_ (i := 1) (N := some 79) (bs 33 3) HT_ ?_
                             refine pureA_ (i := 2) (N := some 80) (bs 33 7) HT_ ?_
                             refine pureA_ (i := 3) (N := some 81) (bs 33 15) HT_ ?_
                             refine pureA_ (i := 4) (N := some 82) (bs 33 31) HT_ ?_
                             refine pureA_ (i := 5) (N := some 83) (bs 33 63) HT_ ?_
                             refine pureA_ (i := 6) (N := some 84) (bs 33 127) HT_ ?_
                             refine pureA_ (i := 7) (N := some 85) (bs 33 255) HT_ ?_
                             refine pureA_ (i := 8) (N := some 86) (bs 33 511) HT_ ?_
                             refine pureA_ (i := 9) (N := some 87) (bs 33 1023) HT_ ?_
                             refine pureA_ (i := 11) (N := some 89) (bs 33 3071) HT_ ?_
                             refine pureA_ (i := 12) (N := some 90) (bs 33 7167) HT_ ?_
                             refine pureA_ (i := 13) (N := some 91) (bs 33 15359) HT_ ?_
                             refine pureA_ (i := 14) (N := some 92) (bs 33 31743) HT_ ?_
                             refine pureA_ (i := 15) (N := some 93) (bs 33 64511) HT_ ?_
                             refine pureA_ (i := 18) (N := some 96) (bs 33 326655) HT_ ?_
                             refine pureA_ (i := 19) (N := some 97) (bs 33 850943) HT_ ?_
                             refine pureA_ (i := 20) (N := some 98) (bs 33 1899519) HT_ ?_
                             refine pureA_ (i := 21) (N := some 99) (bs 33 3996671) HT_ ?_
                             refine pureA_ (i := 22) (N := some 100) (bs 33 8190975) HT_ ?_
                             refine pureA_ (i := 25) (N := some 103) (bs 33 41745407) HT_ ?_
                             refine takeA_ (i := 10) (N := some 88) (bs 33 41746431) HT_ HW_ hHeld ?_
                             refine takeA_ (i := 16) (N := some 94) (bs 33 41811967) HT_ HW_ hHeld ?_
                             refine pureA_ (i := 17) (N := some 95) (bs 33 41943039) HT_ ?_
                             refine takeA_ (i := 23) (N := some 101) (bs 33 50331647) HT_ HW_ hHeld ?_
                             refine pureA_ (i := 24) (N := some 102) (bs 33 67108863) HT_ ?_
                             refine pureA_ (i := 26) (N := some 104) (bs 33 134217727) HT_ ?_
                             refine pureA_ (i := 27) (N := some 105) (bs 33 268435455) HT_ ?_
                             refine last_ (i := 28) (N := none) (bs 33 536870911) rfl rfl (one_of HT_.out (by kernel_rfl)) (by decide) (fun K hK => ?_)
                             refine skip_ (w1 := ?_) (by rfl) rfl ?_ ?_
                             rotate_left
                             ·go_simp
                              rfl
                             refine hK.out _ _ ?_
                             clear hK K
                             refine pureA_ (i := 29) (N := some 106) (bs 33 1073741823) HT_ ?_
                             refine last_ (i := 30) (N := none) (bs 33 2147483647) rfl rfl (one_of HT_.out (by kernel_rfl)) (by decide) (fun K hK => ?_)
                             refine skip_ (w1 := ?_) (by rfl) rfl ?_ ?_
                             rotate_left
                             ·go_simp
                              rfl
                             refine hK.out _ _ ?_
                             clear hK K
                             refine pureA_ (i := 31) (N := some 107) (bs 33 4294967295) HT_ ?_
                             refine last_ (i := 32) (N := none) (bs 33 8589934591) rfl rfl (one_of HT_.out (by kernel_rfl)) (by decide) (fun K hK => ?_)
                             refine skip_ (w1 := ?_) (by rfl) rfl ?_ ?_
                             rotate_left
                             ·go_simp
                              rfl
                             refine hK.out _ _ ?_
                             clear hK K
                             refine done_ (done_of HT_.out (by kernel_rfl)) ?_
                             try go_wp2
                             have n0_ : Aside0 (Kd.R k31 31 (((w63.setCell ⟨go47, (x12_2 : Int).toNat, none⟩ (.int .i64 ((rd_T31 t160 x12_2).f0))).setCell ⟨go49, (x12_2 : Int).toNat, none⟩ (.int .i64 (wrap64 (x10_1 + ((rd_T31 t160 x12_2).f1))))).setCell ⟨go51, (x12_2 : Int).toNat, none⟩ (.int .i64 (wrap64 ((wrap64 (x10_1 + ((rd_T31 t160 x12_2).f2))) + (Go.bits .and .i64 (rd l1 x9_2) 15))))) w.heap.size (fun _ => True) (.slice (some ad180) t160.length co12) t160) := ⟨by exact Kd.R_mono (Kd.R_far (p := ⟨go51, (x12_2 : Int).toNat, none⟩) (Kd.R_far (p := ⟨go49, (x12_2 : Int).toNat, none⟩) (Kd.R_far (p := ⟨go47, (x12_2 : Int).toNat, none⟩) (Kd.R_types (Kd.R_types (Kd.R_types HO_0.out GG47.out (by decide)) GG49.out (by decide)) GG51.out (by decide)) (fun _ hk => hk.1.1.2) (.int .i64 ((rd_T31 t160 x12_2).f0))) (fun _ hk => hk.1.2) (.int .i64 (wrap64 (x10_1 + ((rd_T31 t160 x12_2).f1))))) (fun _ hk => hk.2) (.int .i64 (wrap64 ((wrap64 (x10_1 + ((rd_T31 t160 x12_2).f2))) + (Go.bits .and .i64 (rd l1 x9_2) 15))))) (fun _ hk => trivial)⟩
                             have n1_ : Aside0 (Kd.R (Kd.int .i64) 2 (((w63.setCell ⟨go47, (x12_2 : Int).toNat, none⟩ (.int .i64 ((rd_T31 t160 x12_2).f0))).setCell ⟨go49, (x12_2 : Int).toNat, none⟩ (.int .i64 (wrap64 (x10_1 + ((rd_T31 t160 x12_2).f1))))).setCell ⟨go51, (x12_2 : Int).toNat, none⟩ (.int .i64 (wrap64 ((wrap64 (x10_1 + ((rd_T31 t160 x12_2).f2))) + (Go.bits .and .i64 (rd l1 x9_2) 15))))) w.heap.size (fun k_ => some k_ ≠ (.slice (some ⟨go47, 0, none⟩) x7_2.length co47 : Value).ownBlock ∧ some k_ ≠ (.slice (some ⟨go49, 0, none⟩) x8_2.length co49 : Value).ownBlock) (.slice (some ⟨go51, 0, none⟩) x6_2.length co51) y185) := ⟨by exact Kd.R_mono HQ66.out (fun _ hk => ⟨hk.1.1.1, hk.1.1.2⟩)⟩
                             have n2_ : Aside0 (Kd.R (Kd.int .i64) 2 (((w63.setCell ⟨go47, (x12_2 : Int).toNat, none⟩ (.int .i64 ((rd_T31 t160 x12_2).f0))).setCell ⟨go49, (x12_2 : Int).toNat, none⟩ (.int .i64 (wrap64 (x10_1 + ((rd_T31 t160 x12_2).f1))))).setCell ⟨go51, (x12_2 : Int).toNat, none⟩ (.int .i64 (wrap64 ((wrap64 (x10_1 + ((rd_T31 t160 x12_2).f2))) + (Go.bits .and .i64 (rd l1 x9_2) 15))))) w.heap.size (fun k_ => some k_ ≠ (.slice (some ⟨go51, 0, none⟩) x6_2.length co51 : Value).ownBlock ∧ some k_ ≠ (.slice (some ⟨go49, 0, none⟩) x8_2.length co49 : Value).ownBlock) (.slice (some ⟨go47, 0, none⟩) x7_2.length co47) y183) := ⟨by exact Kd.R_mono (Kd.R_far (p := ⟨go51, (x12_2 : Int).toNat, none⟩) (Kd.R_far (p := ⟨go49, (x12_2 : Int).toNat, none⟩) (Kd.R_mono (Kd.R_mono HQ64.out (fun k_ hk => (⟨hk, fun e_ => hk.2 (by rw [e_]; rfl)⟩ : _ ∧ k_ ≠ go49))) (fun k_ hk => (⟨hk, fun e_ => hk.1.1 (by rw [e_]; rfl)⟩ : _ ∧ k_ ≠ go51))) (fun _ hk => hk.1.2) (.int .i64 (wrap64 (x10_1 + ((rd_T31 t160 x12_2).f1))))) (fun _ hk => hk.2) (.int .i64 (wrap64 ((wrap64 (x10_1 + ((rd_T31 t160 x12_2).f2))) + (Go.bits .and .i64 (rd l1 x9_2) 15))))) (fun _ hk => ⟨hk.1.1.1, hk.1.1.2⟩)⟩
                             have n3_ : Aside0 (Kd.R (Kd.int .i64) 2 (((w63.setCell ⟨go47, (x12_2 : Int).toNat, none⟩ (.int .i64 ((rd_T31 t160 x12_2).f0))).setCell ⟨go49, (x12_2 : Int).toNat, none⟩ (.int .i64 (wrap64 (x10_1 + ((rd_T31 t160 x12_2).f1))))).setCell ⟨go51, (x12_2 : Int).toNat, none⟩ (.int .i64 (wrap64 ((wrap64 (x10_1 + ((rd_T31 t160 x12_2).f2))) + (Go.bits .and .i64 (rd l1 x9_2) 15))))) w.heap.size (fun k_ => some k_ ≠ (.slice (some ⟨go51, 0, none⟩) x6_2.length co51 : Value).ownBlock ∧ some k_ ≠ (.slice (some ⟨go47, 0, none⟩) x7_2.length co47 : Value).ownBlock) (.slice (some ⟨go49, 0, none⟩) x8_2.length co49) y184) := ⟨by exact Kd.R_mono (Kd.R_far (p := ⟨go51, (x12_2 : Int).toNat, none⟩) (Kd.R_mono HQ65.out (fun k_ hk => (⟨hk, fun e_ => hk.1.1 (by rw [e_]; rfl)⟩ : _ ∧ k_ ≠ go51))) (fun _ hk => hk.2) (.int .i64 (wrap64 ((wrap64 (x10_1 + ((rd_T31 t160 x12_2).f2))) + (Go.bits .and .i64 (rd l1 x9_2) 15))))) (fun _ hk => ⟨hk.1.1.1, hk.1.1.2⟩)⟩
                             have n4_ : Aside0 (Below w.heap.size w (((w63.setCell ⟨go47, (x12_2 : Int).toNat, none⟩ (.int .i64 ((rd_T31 t160 x12_2).f0))).setCell ⟨go49, (x12_2 : Int).toNat, none⟩ (.int .i64 (wrap64 (x10_1 + ((rd_T31 t160 x12_2).f1))))).setCell ⟨go51, (x12_2 : Int).toNat, none⟩ (.int .i64 (wrap64 ((wrap64 (x10_1 + ((rd_T31 t160 x12_2).f2))) + (Go.bits .and .i64 (rd l1 x9_2) 15)))))) := ⟨by repeat ((with_reducible first | exact HB.out | refine below_set ?_ GB47.out | refine below_set ?_ GB49.out | refine below_set ?_ GB51.out))⟩
                             (try clear HO_0)
                             (try clear HO_6)
                             (try clear HO_7)
                             (try clear HO_8)
                             (try clear HB)
                             generalize (((w63.setCell ⟨go47, (x12_2 : Int).toNat, none⟩ (.int .i64 ((rd_T31 t160 x12_2).f0))).setCell ⟨go49, (x12_2 : Int).toNat, none⟩ (.int .i64 (wrap64 (x10_1 + ((rd_T31 t160 x12_2).f1))))).setCell ⟨go51, (x12_2 : Int).toNat, none⟩ (.int .i64 (wrap64 ((wrap64 (x10_1 + ((rd_T31 t160 x12_2).f2))) + (Go.bits .and .i64 (rd l1 x9_2) 15))))) = w67 at n0_ n1_ n2_ n3_ n4_ ⊢
                             have HO_0 := n0_
                             have HO_6 := n1_
                             have HO_7 := n2_
                             have HO_8 := n3_
                             have HB := n4_
                             clear n0_ n1_ n2_ n3_ n4_
                             replace HO_0 := Aside0.mk (Kd.R_drew HO_0.out)
                             replace HO_6 := Aside0.mk (Kd.R_drew HO_6.out)
                             replace HO_7 := Aside0.mk (Kd.R_drew HO_7.out)
                             replace HO_8 := Aside0.mk (Kd.R_drew HO_8.out)
                             replace HB := Aside0.mk (below_drew1 HB.out)
                             have p186 : 0 ≤ (x12_2 : Int) := of_decide_eq_true (by (with_reducible assumption))
                             have q186 : x12_2 < (y183.length : Int) := (by have h_ : (x12_2 : Int) < ((x7_2.length : Int) : Int) := of_decide_eq_true (by (with_reducible assumption)); (have e_ := (Kd.R_reads' HO_7.out).1; omega))
                             have ql186 : ((x12_2 : Int) < ((x7_2.length : Int) : Int)) = True := eq_true (of_decide_eq_true (by (with_reducible assumption)))
                             obtain ⟨ad186, e186, hx186_0⟩ := Kd.at_int (Kd.R_reads' HO_7.out).2.2 x12_2 p186 q186
                             obtain rfl : (⟨go47, 0, none⟩ : Addr) = ad186 := (by injection e186)
                             ((simp only [add_at] at hx186_0))
                             (try simp only [Nat.zero_add] at hx186_0)
                             replace p186 := eq_true p186
                             replace q186 := eq_true q186
                             have p187 : 0 ≤ (x12_2 : Int) := of_decide_eq_true (by (with_reducible assumption))
                             have q187 : x12_2 < (y184.length : Int) := (by have h_ : (x12_2 : Int) < ((x8_2.length : Int) : Int) := of_decide_eq_true (by (with_reducible assumption)); (have e_ := (Kd.R_reads' HO_8.out).1; omega))
                             have ql187 : ((x12_2 : Int) < ((x8_2.length : Int) : Int)) = True := eq_true (of_decide_eq_true (by (with_reducible assumption)))
                             obtain ⟨ad187, e187, hx187_0⟩ := Kd.at_int (Kd.R_reads' HO_8.out).2.2 x12_2 p187 q187
                             obtain rfl : (⟨go49, 0, none⟩ : Addr) = ad187 := (by injection e187)
                             ((simp only [add_at] at hx187_0))
                             (try simp only [Nat.zero_add] at hx187_0)
                             replace p187 := eq_true p187
                             replace q187 := eq_true q187
                             have p188 : 0 ≤ (x11_2 : Int) := of_decide_eq_true (by (with_reducible assumption))
                             have q188 : x11_2 < (y184.length : Int) := (by have h_ : (x11_2 : Int) < ((x8_2.length : Int) : Int) := of_decide_eq_true (by (with_reducible assumption)); (have e_ := (Kd.R_reads' HO_8.out).1; omega))
                             have ql188 : ((x11_2 : Int) < ((x8_2.length : Int) : Int)) = True := eq_true (of_decide_eq_true (by (with_reducible assumption)))
                             obtain ⟨ad188, e188, hx188_0⟩ := Kd.at_int (Kd.R_reads' HO_8.out).2.2 x11_2 p188 q188
                             obtain rfl : (⟨go49, 0, none⟩ : Addr) = ad188 := (by injection e188)
                             ((simp only [add_at] at hx188_0))
                             (try simp only [Nat.zero_add] at hx188_0)
                             replace p188 := eq_true p188
                             replace q188 := eq_true q188
                             refine start_ (n := 20) (S := fun w' => w'.cell? ⟨go47, (x12_2).toNat, none⟩ = some (.int .i64 (rd y183 x12_2)) ∧ w'.cell? ⟨go49, (x12_2).toNat, none⟩ = some (.int .i64 (rd y184 x12_2)) ∧ w'.cell? ⟨go49, (x11_2).toNat, none⟩ = some (.int .i64 (rd y184 x11_2))) (ds := []) (bs 20 0) (by kernel_rfl) rfl rfl ⟨hx186_0, hx187_0, hx188_0⟩ (fun hHeld => ?_); refine with_tabW hortatorlaw9_DemandRun.tab24 hortatorlaw9_DemandRun.bits24 (fun HT_ HW_ => ?_)
                             generalize w67.drew = w68 at HO_0 HO_6 HO_7 HO_8 HB HQ64 HQ65 HQ66 hx186_0 hx187_0 hx188_0 hHeld ⊢
                             refine pureA_ (i := 0) (N := some 108) (bs 20 1) HT_ ?_
                             refine pureA_ (i := 1) (N := some 109) (bs 20 3) HT_ ?_
                             refine pureA_ (i := 2) (N := some 110) (bs 20 7) HT_ ?_
                             refine takeA_ (i := 3) (N := some 111) (bs 20 15) HT_ HW_ hHeld ?_
                             refine pureA_ (i := 4) (N := some 112) (bs 20 31) HT_ ?_
                             refine pureA_ (i := 5) (N := some 113) (bs 20 63) HT_ ?_
                             refine pureA_ (i := 6) (N := some 114) (bs 20 127) HT_ ?_
                             refine pureA_ (i := 7) (N := some 115) (bs 20 255) HT_ ?_
                             refine pureA_ (i := 8) (N := some 116) (bs 20 511) HT_ ?_
                             refine pureA_ (i := 9) (N := some 117) (bs 20 1023) HT_ ?_
                             refine pureA_ (i := 10) (N := some 118) (bs 20 2047) HT_ ?_
                             refine pureA_ (i := 11) (N := some 119) (bs 20 4095) HT_ ?_
                             refine pureA_ (i := 13) (N := some 121) (bs 20 12287) HT_ ?_
                             refine pureA_ (i := 14) (N := some 122) (bs 20 28671) HT_ ?_
                             refine pureA_ (i := 15) (N := some 123) (bs 20 61439) HT_ ?_
                             refine takeA_ (i := 12) (N := some 120) (bs 20 65535) HT_ HW_ hHeld ?_
                             refine takeA_ (i := 16) (N := some 124) (bs 20 131071) HT_ HW_ hHeld ?_
                             refine pureA_ (i := 17) (N := some 125) (bs 20 262143) HT_ ?_
                             refine pureA_ (i := 18) (N := some 126) (bs 20 524287) HT_ ?_
                             refine pureA_ (i := 19) (N := some 127) (bs 20 1048575) HT_ ?_
                             refine done_ (done_of HT_.out (by kernel_rfl)) ?_
                             try go_wp2
                             go_roundg kj32
                             case measure => have := HK1.out; have := HK2.out; have := HJ23.out; have := HJ32.out; omega
                             case rel => exact ⟨(y185), (y183), (y184), (wrap64 (x9_2 + 1)), (x12_2), (wrap64 (x12_2 + 1)), (by (rfl)), (by (rfl)), (by (rfl)), H', ⟨by have := HK1.out; have := HK2.out; have := HJ23.out; have := HJ32.out; omega⟩, ⟨HO_0.out⟩, ⟨HO_6.out⟩, ⟨HO_7.out⟩, ⟨HO_8.out⟩, ⟨HB.out⟩⟩
                            ·as_aux_lemma =>
                             rw [if_neg c62] at H
                             have c62b0 : decide ((rd y184 x12_2) < (rd y184 x11_2)) = false := decide_eq_false c62
                             clear c62
                             have H' := Aside0.mk H
                             clear H
                             have p179 : 0 ≤ (x9_2 : Int) := of_decide_eq_true (by (with_reducible assumption))
                             have q179 : x9_2 < (l1.length : Int) := of_decide_eq_true (by (with_reducible assumption))
                             obtain ⟨ad179, e179, hx179_0⟩ := Kd.at_int HR1.out x9_2 p179 q179
                             cases e179
                             replace hx179_0 := (HB.out.cell (World.block_lt_of_cell? w _ hx179_0)).trans hx179_0
                             replace p179 := eq_true p179
                             replace q179 := eq_true q179
                             try go_wp2
                             replace HO_0 := Aside0.mk (Kd.R_drew HO_0.out)
                             replace HO_6 := Aside0.mk (Kd.R_drew HO_6.out)
                             replace HO_7 := Aside0.mk (Kd.R_drew HO_7.out)
                             replace HO_8 := Aside0.mk (Kd.R_drew HO_8.out)
                             replace HB := Aside0.mk (below_drew1 HB.out)
                             have p180 : 0 ≤ (x12_2 : Int) := of_decide_eq_true (by (with_reducible assumption))
                             have q180 : x12_2 < (t160.length : Int) := of_decide_eq_true (by (with_reducible assumption))
                             obtain ⟨ad180, e180, hx180_0, hx180_1, hx180_2⟩ := at_T31 (Kd.R_reads' HO_0.out).2.2 x12_2 p180 q180
                             cases e180
                             replace p180 := eq_true p180
                             replace q180 := eq_true q180
                             have p181 : 0 ≤ (x12_2 : Int) := of_decide_eq_true (by (with_reducible assumption))
                             have q181 : x12_2 < (t160.length : Int) := of_decide_eq_true (by (with_reducible assumption))
                             obtain ⟨ad181, e181, hx181_0, hx181_1, hx181_2⟩ := at_T31 (Kd.R_reads' HO_0.out).2.2 x12_2 p181 q181
                             obtain rfl : ad180 = ad181 := (by injection e181)
                             replace p181 := eq_true p181
                             replace q181 := eq_true q181
                             have p182 : 0 ≤ (x12_2 : Int) := of_decide_eq_true (by (with_reducible assumption))
                             have q182 : x12_2 < (t160.length : Int) := of_decide_eq_true (by (with_reducible assumption))
                             obtain ⟨ad182, e182, hx182_0, hx182_1, hx182_2⟩ := at_T31 (Kd.R_reads' HO_0.out).2.2 x12_2 p182 q182
                             obtain rfl : ad180 = ad182 := (by injection e182)
                             replace p182 := eq_true p182
                             replace q182 := eq_true q182
                             have p47 : 0 ≤ (x12_2 : Int) := of_decide_eq_true (by (with_reducible assumption))
                             have q47 : (x12_2 : Int) < ((x7_2.length : Int) : Int) := of_decide_eq_true (by (with_reducible assumption))
                             obtain ⟨go47, co47, eo47, gb47, gl47, cl47, HG47⟩ := Kd.R_form HO_7.out (by omega)
                             ((cases eo47))
                             have GB47 := Aside0.mk gb47
                             have GG47 := Aside0.mk HG47
                             clear gb47 gl47 HG47
                             obtain ⟨hx47_0, hf47_0⟩ := Kd.R_celln 0 HO_7.out (x12_2 : Int) p47 q47
                             replace p47 := eq_true p47
                             replace q47 := eq_true q47
                             have HP70 := Kd.R_putn HO_7.out (x12_2 : Int) ((rd_T31 t160 x12_2).f0)
                             rw [← Ny183.out] at HP70
                             have HQ70 := Aside0.mk HP70
                             clear HP70
                             have p49 : 0 ≤ (x12_2 : Int) := of_decide_eq_true (by (with_reducible assumption))
                             have q49 : (x12_2 : Int) < ((x8_2.length : Int) : Int) := of_decide_eq_true (by (with_reducible assumption))
                             obtain ⟨go49, co49, eo49, gb49, gl49, cl49, HG49⟩ := Kd.R_form HO_8.out (by omega)
                             ((cases eo49))
                             have GB49 := Aside0.mk gb49
                             have GG49 := Aside0.mk HG49
                             clear gb49 gl49 HG49
                             obtain ⟨hx49_0, hf49_0⟩ := Kd.R_celln 0 (Kd.R_far (p := ⟨go47, (x12_2 : Int).toNat, none⟩) (Kd.R_mono HO_8.out (fun k_ hk => (⟨hk, fun e_ => hk.2 (by rw [e_]; rfl)⟩ : _ ∧ k_ ≠ go47))) (fun _ hk => hk.2) (.int .i64 ((rd_T31 t160 x12_2).f0))) (x12_2 : Int) p49 q49
                             replace p49 := eq_true p49
                             replace q49 := eq_true q49
                             have HP71 := Kd.R_putn (Kd.R_far (p := ⟨go47, (x12_2 : Int).toNat, none⟩) (Kd.R_mono HO_8.out (fun k_ hk => (⟨hk, fun e_ => hk.2 (by rw [e_]; rfl)⟩ : _ ∧ k_ ≠ go47))) (fun _ hk => hk.2) (.int .i64 ((rd_T31 t160 x12_2).f0))) (x12_2 : Int) (wrap64 (x10_1 + ((rd_T31 t160 x12_2).f1)))
                             rw [← Ny184.out] at HP71
                             have HQ71 := Aside0.mk HP71
                             clear HP71
                             have p51 : 0 ≤ (x12_2 : Int) := of_decide_eq_true (by (with_reducible assumption))
                             have q51 : (x12_2 : Int) < ((x6_2.length : Int) : Int) := of_decide_eq_true (by (with_reducible assumption))
                             obtain ⟨go51, co51, eo51, gb51, gl51, cl51, HG51⟩ := Kd.R_form HO_6.out (by omega)
                             ((cases eo51))
                             have GB51 := Aside0.mk gb51
                             have GG51 := Aside0.mk HG51
                             clear gb51 gl51 HG51
                             obtain ⟨hx51_0, hf51_0⟩ := Kd.R_celln 0 (Kd.R_far (p := ⟨go49, (x12_2 : Int).toNat, none⟩) (Kd.R_far (p := ⟨go47, (x12_2 : Int).toNat, none⟩) (Kd.R_mono (Kd.R_mono HO_6.out (fun k_ hk => (⟨hk, fun e_ => hk.1 (by rw [e_]; rfl)⟩ : _ ∧ k_ ≠ go47))) (fun k_ hk => (⟨hk, fun e_ => hk.1.2 (by rw [e_]; rfl)⟩ : _ ∧ k_ ≠ go49))) (fun _ hk => hk.1.2) (.int .i64 ((rd_T31 t160 x12_2).f0))) (fun _ hk => hk.2) (.int .i64 (wrap64 (x10_1 + ((rd_T31 t160 x12_2).f1))))) (x12_2 : Int) p51 q51
                             replace p51 := eq_true p51
                             replace q51 := eq_true q51
                             have HP72 := Kd.R_putn (Kd.R_far (p := ⟨go49, (x12_2 : Int).toNat, none⟩) (Kd.R_far (p := ⟨go47, (x12_2 : Int).toNat, none⟩) (Kd.R_mono (Kd.R_mono HO_6.out (fun k_ hk => (⟨hk, fun e_ => hk.1 (by rw [e_]; rfl)⟩ : _ ∧ k_ ≠ go47))) (fun k_ hk => (⟨hk, fun e_ => hk.1.2 (by rw [e_]; rfl)⟩ : _ ∧ k_ ≠ go49))) (fun _ hk => hk.1.2) (.int .i64 ((rd_T31 t160 x12_2).f0))) (fun _ hk => hk.2) (.int .i64 (wrap64 (x10_1 + ((rd_T31 t160 x12_2).f1))))) (x12_2 : Int) (wrap64 ((wrap64 (x10_1 + ((rd_T31 t160 x12_2).f2))) + (Go.bits .and .i64 (rd l1 x9_2) 15)))
                             rw [← Ny185.out] at HP72
                             have HQ72 := Aside0.mk HP72
                             clear HP72
                             refine start_ (n := 33) (S := fun w' => w'.cell? (ad180.add ((x12_2).toNat * 3)) = some (.int .i64 ((rd_T31 t160 x12_2).f0)) ∧ w'.cell? ⟨(ad180.add ((x12_2).toNat * 3)).block, (ad180.add ((x12_2).toNat * 3)).off + 1, none⟩ = some (.int .i64 ((rd_T31 t160 x12_2).f1)) ∧ w'.cell? ⟨(ad180.add ((x12_2).toNat * 3)).block, (ad180.add ((x12_2).toNat * 3)).off + 2, none⟩ = some (.int .i64 ((rd_T31 t160 x12_2).f2)) ∧ w'.cell? (ad180.add ((x12_2).toNat * 3)) = some (.int .i64 ((rd_T31 t160 x12_2).f0)) ∧ w'.cell? ⟨(ad180.add ((x12_2).toNat * 3)).block, (ad180.add ((x12_2).toNat * 3)).off + 1, none⟩ = some (.int .i64 ((rd_T31 t160 x12_2).f1)) ∧ w'.cell? ⟨(ad180.add ((x12_2).toNat * 3)).block, (ad180.add ((x12_2).toNat * 3)).off + 2, none⟩ = some (.int .i64 ((rd_T31 t160 x12_2).f2)) ∧ w'.cell? (ad180.add ((x12_2).toNat * 3)) = some (.int .i64 ((rd_T31 t160 x12_2).f0)) ∧ w'.cell? ⟨(ad180.add ((x12_2).toNat * 3)).block, (ad180.add ((x12_2).toNat * 3)).off + 1, none⟩ = some (.int .i64 ((rd_T31 t160 x12_2).f1)) ∧ w'.cell? ⟨(ad180.add ((x12_2).toNat * 3)).block, (ad180.add ((x12_2).toNat * 3)).off + 2, none⟩ = some (.int .i64 ((rd_T31 t160 x12_2).f2))) (ds := [28, 30, 32]) (bs 33 0) (by kernel_rfl) rfl rfl ⟨hx180_0, hx180_1, hx180_2, hx181_0, hx181_1, hx181_2, hx182_0, hx182_1, hx182_2⟩ (fun hHeld => ?_); refine with_tabW hortatorlaw9_DemandRun.tab23 hortatorlaw9_DemandRun.bits23 (fun HT_ HW_ => ?_)
                             generalize wc.drew = w69 at HO_0 HO_6 HO_7 HO_8 HB GG47 GG49 GG51 HQ70 HQ71 HQ72 hf47_0 hf49_0 hf51_0 hx180_0 hx180_1 hx180_2 hx181_0 hx181_1 hx181_2 hx182_0 hx182_1 hx182_2 hx47_0 hx49_0 hx51_0 hHeld ⊢
                             refine pureA_ (i := 0) (N := some 78) (bs 33 1) HT_ ?_
                             refine pureA_ (i := 1) (N := some 79) (bs 33 3) HT_ ?_
                             refine pureA_ (i := 2) (N := some 80) (bs 33 7) HT_ ?_
                             refine pureA_ (i := 3) (N := some 81) (bs 33 15) HT_ ?_
                             refine pureA_ (i := 4) (N := some 82) (bs 33 31) HT_ ?_
                             refine pureA_ (i := 5) (N := some 83) (bs 33 63) HT_ ?_
                             refine pureA_ (i := 6) (N := some 84) (bs 33 127) HT_ ?_
                             refine pureA_ (i := 7) (N := some 85) (bs 33 255) HT_ ?_
                             refine pureA_ (i := 8) (N := some 86) (bs 33 511) HT_ ?_
                             refine pureA_ (i := 9) (N := some 87) (bs 33 1023) HT_ ?_
                             refine pureA_ (i := 11) (N := some 89) (bs 33 3071) HT_ ?_
                             refine pureA_ (i := 12) (N := some 90) (bs 33 7167) HT_ ?_
                             refine pureA_ (i := 13) (N := some 91) (bs 33 15359) HT_ ?_
                             refine pureA_ (i := 14) (N := some 92) (bs 33 31743) HT_ ?_
                             refine pureA_ (i := 15) (N := some 93) (bs 33 64511) HT_ ?_
                             refine pureA_ (i := 18) (N := some 96) (bs 33 326655) HT_ ?_
                             refine pureA_ (i := 19) (N := some 97) (bs 33 850943) HT_ ?_
                             refine pureA_ (i := 20) (N := some 98) (bs 33 1899519) HT_ ?_
                             refine pureA_ (i := 21) (N := some 99) (bs 33 3996671) HT_ ?_
                             refine pureA_ (i := 22) (N := some 100) (bs 33 8190975) HT_ ?_
                             refine pureA_ (i := 25) (N := some 103) (bs 33 41745407) HT_ ?_
                             refine takeA_ (i := 10) (N := some 88) (bs 33 41746431) HT_ HW_ hHeld ?_
                             refine takeA_ (i := 16) (N := some 94) (bs 33 41811967) HT_ HW_ hHeld ?_
                             refine pureA_ (i := 17) (N := some 95) (bs 33 41943039) HT_ ?_
                             refine takeA_ (i := 23) (N := some 101) (bs 33 50331647) HT_ HW_ hHeld ?_
                             refine pureA_ (i := 24) (N := some 102) (bs 33 67108863) HT_ ?_
                             refine pureA_ (i := 26) (N := some 104) (bs 33 134217727) HT_ ?_
                             refine pureA_ (i := 27) (N := some 105) (bs 33 268435455) HT_ ?_
                             refine last_ (i := 28) (N := none) (bs 33 536870911) rfl rfl (one_of HT_.out (by kernel_rfl)) (by decide) (fun K hK => ?_)
                             refine skip_ (w1 := ?_) (by rfl) rfl ?_ ?_
                             rotate_left
                             ·go_simp
                              rfl
                             refine hK.out _ _ ?_
                             clear hK K
                             refine pureA_ (i := 29) (N := some 106) (bs 33 1073741823) HT_ ?_
                             refine last_ (i := 30) (N := none) (bs 33 2147483647) rfl rfl (one_of HT_.out (by kernel_rfl)) (by decide) (fun K hK => ?_)
                             refine skip_ (w1 := ?_) (by rfl) rfl ?_ ?_
                             rotate_left
                             ·go_simp
                              rfl
                             refine hK.out _ _ ?_
                             clear hK K
                             refine pureA_ (i := 31) (N := some 107) (bs 33 4294967295) HT_ ?_
                             refine last_ (i := 32) (N := none) (bs 33 8589934591) rfl rfl (one_of HT_.out (by kernel_rfl)) (by decide) (fun K hK => ?_)
                             refine skip_ (w1 := ?_) (by rfl) rfl ?_ ?_
                             rotate_left
                             ·go_simp
                              rfl
                             refine hK.out _ _ ?_
                             clear hK K
                             refine done_ (done_of HT_.out (by kernel_rfl)) ?_
                             try go_wp2
                             have n0_ : Aside0 (Kd.R k31 31 (((w69.setCell ⟨go47, (x12_2 : Int).toNat, none⟩ (.int .i64 ((rd_T31 t160 x12_2).f0))).setCell ⟨go49, (x12_2 : Int).toNat, none⟩ (.int .i64 (wrap64 (x10_1 + ((rd_T31 t160 x12_2).f1))))).setCell ⟨go51, (x12_2 : Int).toNat, none⟩ (.int .i64 (wrap64 ((wrap64 (x10_1 + ((rd_T31 t160 x12_2).f2))) + (Go.bits .and .i64 (rd l1 x9_2) 15))))) w.heap.size (fun _ => True) (.slice (some ad180) t160.length co12) t160) := ⟨by exact Kd.R_mono (Kd.R_far (p := ⟨go51, (x12_2 : Int).toNat, none⟩) (Kd.R_far (p := ⟨go49, (x12_2 : Int).toNat, none⟩) (Kd.R_far (p := ⟨go47, (x12_2 : Int).toNat, none⟩) (Kd.R_types (Kd.R_types (Kd.R_types HO_0.out GG47.out (by decide)) GG49.out (by decide)) GG51.out (by decide)) (fun _ hk => hk.1.1.2) (.int .i64 ((rd_T31 t160 x12_2).f0))) (fun _ hk => hk.1.2) (.int .i64 (wrap64 (x10_1 + ((rd_T31 t160 x12_2).f1))))) (fun _ hk => hk.2) (.int .i64 (wrap64 ((wrap64 (x10_1 + ((rd_T31 t160 x12_2).f2))) + (Go.bits .and .i64 (rd l1 x9_2) 15))))) (fun _ hk => trivial)⟩
                             have n1_ : Aside0 (Kd.R (Kd.int .i64) 2 (((w69.setCell ⟨go47, (x12_2 : Int).toNat, none⟩ (.int .i64 ((rd_T31 t160 x12_2).f0))).setCell ⟨go49, (x12_2 : Int).toNat, none⟩ (.int .i64 (wrap64 (x10_1 + ((rd_T31 t160 x12_2).f1))))).setCell ⟨go51, (x12_2 : Int).toNat, none⟩ (.int .i64 (wrap64 ((wrap64 (x10_1 + ((rd_T31 t160 x12_2).f2))) + (Go.bits .and .i64 (rd l1 x9_2) 15))))) w.heap.size (fun k_ => some k_ ≠ (.slice (some ⟨go47, 0, none⟩) x7_2.length co47 : Value).ownBlock ∧ some k_ ≠ (.slice (some ⟨go49, 0, none⟩) x8_2.length co49 : Value).ownBlock) (.slice (some ⟨go51, 0, none⟩) x6_2.length co51) y185) := ⟨by exact Kd.R_mono HQ72.out (fun _ hk => ⟨hk.1.1.1, hk.1.1.2⟩)⟩
                             have n2_ : Aside0 (Kd.R (Kd.int .i64) 2 (((w69.setCell ⟨go47, (x12_2 : Int).toNat, none⟩ (.int .i64 ((rd_T31 t160 x12_2).f0))).setCell ⟨go49, (x12_2 : Int).toNat, none⟩ (.int .i64 (wrap64 (x10_1 + ((rd_T31 t160 x12_2).f1))))).setCell ⟨go51, (x12_2 : Int).toNat, none⟩ (.int .i64 (wrap64 ((wrap64 (x10_1 + ((rd_T31 t160 x12_2).f2))) + (Go.bits .and .i64 (rd l1 x9_2) 15))))) w.heap.size (fun k_ => some k_ ≠ (.slice (some ⟨go51, 0, none⟩) x6_2.length co51 : Value).ownBlock ∧ some k_ ≠ (.slice (some ⟨go49, 0, none⟩) x8_2.length co49 : Value).ownBlock) (.slice (some ⟨go47, 0, none⟩) x7_2.length co47) y183) := ⟨by exact Kd.R_mono (Kd.R_far (p := ⟨go51, (x12_2 : Int).toNat, none⟩) (Kd.R_far (p := ⟨go49, (x12_2 : Int).toNat, none⟩) (Kd.R_mono (Kd.R_mono HQ70.out (fun k_ hk => (⟨hk, fun e_ => hk.2 (by rw [e_]; rfl)⟩ : _ ∧ k_ ≠ go49))) (fun k_ hk => (⟨hk, fun e_ => hk.1.1 (by rw [e_]; rfl)⟩ : _ ∧ k_ ≠ go51))) (fun _ hk => hk.1.2) (.int .i64 (wrap64 (x10_1 + ((rd_T31 t160 x12_2).f1))))) (fun _ hk => hk.2) (.int .i64 (wrap64 ((wrap64 (x10_1 + ((rd_T31 t160 x12_2).f2))) + (Go.bits .and .i64 (rd l1 x9_2) 15))))) (fun _ hk => ⟨hk.1.1.1, hk.1.1.2⟩)⟩
                             have n3_ : Aside0 (Kd.R (Kd.int .i64) 2 (((w69.setCell ⟨go47, (x12_2 : Int).toNat, none⟩ (.int .i64 ((rd_T31 t160 x12_2).f0))).setCell ⟨go49, (x12_2 : Int).toNat, none⟩ (.int .i64 (wrap64 (x10_1 + ((rd_T31 t160 x12_2).f1))))).setCell ⟨go51, (x12_2 : Int).toNat, none⟩ (.int .i64 (wrap64 ((wrap64 (x10_1 + ((rd_T31 t160 x12_2).f2))) + (Go.bits .and .i64 (rd l1 x9_2) 15))))) w.heap.size (fun k_ => some k_ ≠ (.slice (some ⟨go51, 0, none⟩) x6_2.length co51 : Value).ownBlock ∧ some k_ ≠ (.slice (some ⟨go47, 0, none⟩) x7_2.length co47 : Value).ownBlock) (.slice (some ⟨go49, 0, none⟩) x8_2.length co49) y184) := ⟨by exact Kd.R_mono (Kd.R_far (p := ⟨go51, (x12_2 : Int).toNat, none⟩) (Kd.R_mono HQ71.out (fun k_ hk => (⟨hk, fun e_ => hk.1.1 (by rw [e_]; rfl)⟩ : _ ∧ k_ ≠ go51))) (fun _ hk => hk.2) (.int .i64 (wrap64 ((wrap64 (x10_1 + ((rd_T31 t160 x12_2).f2))) + (Go.bits .and .i64 (rd l1 x9_2) 15))))) (fun _ hk => ⟨hk.1.1.1, hk.1.1.2⟩)⟩
                             have n4_ : Aside0 (Below w.heap.size w (((w69.setCell ⟨go47, (x12_2 : Int).toNat, none⟩ (.int .i64 ((rd_T31 t160 x12_2).f0))).setCell ⟨go49, (x12_2 : Int).toNat, none⟩ (.int .i64 (wrap64 (x10_1 + ((rd_T31 t160 x12_2).f1))))).setCell ⟨go51, (x12_2 : Int).toNat, none⟩ (.int .i64 (wrap64 ((wrap64 (x10_1 + ((rd_T31 t160 x12_2).f2))) + (Go.bits .and .i64 (rd l1 x9_2) 15)))))) := ⟨by repeat ((with_reducible first | exact HB.out | refine below_set ?_ GB47.out | refine below_set ?_ GB49.out | refine below_set ?_ GB51.out))⟩
                             (try clear HO_0)
                             (try clear HO_6)
                             (try clear HO_7)
                             (try clear HO_8)
                             (try clear HB)
                             generalize (((w69.setCell ⟨go47, (x12_2 : Int).toNat, none⟩ (.int .i64 ((rd_T31 t160 x12_2).f0))).setCell ⟨go49, (x12_2 : Int).toNat, none⟩ (.int .i64 (wrap64 (x10_1 + ((rd_T31 t160 x12_2).f1))))).setCell ⟨go51, (x12_2 : Int).toNat, none⟩ (.int .i64 (wrap64 ((wrap64 (x10_1 + ((rd_T31 t160 x12_2).f2))) + (Go.bits .and .i64 (rd l1 x9_2) 15))))) = w73 at n0_ n1_ n2_ n3_ n4_ ⊢
                             have HO_0 := n0_
                             have HO_6 := n1_
                             have HO_7 := n2_
                             have HO_8 := n3_
                             have HB := n4_
                             clear n0_ n1_ n2_ n3_ n4_
                             replace HO_0 := Aside0.mk (Kd.R_drew HO_0.out)
                             replace HO_6 := Aside0.mk (Kd.R_drew HO_6.out)
                             replace HO_7 := Aside0.mk (Kd.R_drew HO_7.out)
                             replace HO_8 := Aside0.mk (Kd.R_drew HO_8.out)
                             replace HB := Aside0.mk (below_drew1 HB.out)
                             have p186 : 0 ≤ (x12_2 : Int) := of_decide_eq_true (by (with_reducible assumption))
                             have q186 : x12_2 < (y183.length : Int) := (by have h_ : (x12_2 : Int) < ((x7_2.length : Int) : Int) := of_decide_eq_true (by (with_reducible assumption)); (have e_ := (Kd.R_reads' HO_7.out).1; omega))
                             have ql186 : ((x12_2 : Int) < ((x7_2.length : Int) : Int)) = True := eq_true (of_decide_eq_true (by (with_reducible assumption)))
                             obtain ⟨ad186, e186, hx186_0⟩ := Kd.at_int (Kd.R_reads' HO_7.out).2.2 x12_2 p186 q186
                             obtain rfl : (⟨go47, 0, none⟩ : Addr) = ad186 := (by injection e186)
                             ((simp only [add_at] at hx186_0))
                             (try simp only [Nat.zero_add] at hx186_0)
                             replace p186 := eq_true p186
                             replace q186 := eq_true q186
                             have p187 : 0 ≤ (x12_2 : Int) := of_decide_eq_true (by (with_reducible assumption))
                             have q187 : x12_2 < (y184.length : Int) := (by have h_ : (x12_2 : Int) < ((x8_2.length : Int) : Int) := of_decide_eq_true (by (with_reducible assumption)); (have e_ := (Kd.R_reads' HO_8.out).1; omega))
                             have ql187 : ((x12_2 : Int) < ((x8_2.length : Int) : Int)) = True := eq_true (of_decide_eq_true (by (with_reducible assumption)))
                             obtain ⟨ad187, e187, hx187_0⟩ := Kd.at_int (Kd.R_reads' HO_8.out).2.2 x12_2 p187 q187
                             obtain rfl : (⟨go49, 0, none⟩ : Addr) = ad187 := (by injection e187)
                             ((simp only [add_at] at hx187_0))
                             (try simp only [Nat.zero_add] at hx187_0)
                             replace p187 := eq_true p187
                             replace q187 := eq_true q187
                             have p188 : 0 ≤ (x11_2 : Int) := of_decide_eq_true (by (with_reducible assumption))
                             have q188 : x11_2 < (y184.length : Int) := (by have h_ : (x11_2 : Int) < ((x8_2.length : Int) : Int) := of_decide_eq_true (by (with_reducible assumption)); (have e_ := (Kd.R_reads' HO_8.out).1; omega))
                             have ql188 : ((x11_2 : Int) < ((x8_2.length : Int) : Int)) = True := eq_true (of_decide_eq_true (by (with_reducible assumption)))
                             obtain ⟨ad188, e188, hx188_0⟩ := Kd.at_int (Kd.R_reads' HO_8.out).2.2 x11_2 p188 q188
                             obtain rfl : (⟨go49, 0, none⟩ : Addr) = ad188 := (by injection e188)
                             ((simp only [add_at] at hx188_0))
                             (try simp only [Nat.zero_add] at hx188_0)
                             replace p188 := eq_true p188
                             replace q188 := eq_true q188
                             refine start_ (n := 20) (S := fun w' => w'.cell? ⟨go47, (x12_2).toNat, none⟩ = some (.int .i64 (rd y183 x12_2)) ∧ w'.cell? ⟨go49, (x12_2).toNat, none⟩ = some (.int .i64 (rd y184 x12_2)) ∧ w'.cell? ⟨go49, (x11_2).toNat, none⟩ = some (.int .i64 (rd y184 x11_2))) (ds := []) (bs 20 0) (by kernel_rfl) rfl rfl ⟨hx186_0, hx187_0, hx188_0⟩ (fun hHeld => ?_); refine with_tabW hortatorlaw9_DemandRun.tab24 hortatorlaw9_DemandRun.bits24 (fun HT_ HW_ => ?_)
                             generalize w73.drew = w74 at HO_0 HO_6 HO_7 HO_8 HB HQ70 HQ71 HQ72 hx186_0 hx187_0 hx188_0 hHeld ⊢
                             refine pureA_ (i := 0) (N := some 108) (bs 20 1) HT_ ?_
                             refine pureA_ (i := 1) (N := some 109) (bs 20 3) HT_ ?_
                             refine pureA_ (i := 2) (N := some 110) (bs 20 7) HT_ ?_
                             refine takeA_ (i := 3) (N := some 111) (bs 20 15) HT_ HW_ hHeld ?_
                             refine pureA_ (i := 4) (N := some 112) (bs 20 31) HT_ ?_
                             refine pureA_ (i := 5) (N := some 113) (bs 20 63) HT_ ?_
                             refine pureA_ (i := 6) (N := some 114) (bs 20 127) HT_ ?_
                             refine pureA_ (i := 7) (N := some 115) (bs 20 255) HT_ ?_
                             refine pureA_ (i := 8) (N := some 116) (bs 20 511) HT_ ?_
                             refine pureA_ (i := 9) (N := some 117) (bs 20 1023) HT_ ?_
                             refine pureA_ (i := 10) (N := some 118) (bs 20 2047) HT_ ?_
                             refine pureA_ (i := 11) (N := some 119) (bs 20 4095) HT_ ?_
                             refine pureA_ (i := 13) (N := some 121) (bs 20 12287) HT_ ?_
                             refine pureA_ (i := 14) (N := some 122) (bs 20 28671) HT_ ?_
                             refine pureA_ (i := 15) (N := some 123) (bs 20 61439) HT_ ?_
                             refine takeA_ (i := 12) (N := some 120) (bs 20 65535) HT_ HW_ hHeld ?_
                             refine takeA_ (i := 16) (N := some 124) (bs 20 131071) HT_ HW_ hHeld ?_
                             refine pureA_ (i := 17) (N := some 125) (bs 20 262143) HT_ ?_
                             refine pureA_ (i := 18) (N := some 126) (bs 20 524287) HT_ ?_
                             refine pureA_ (i := 19) (N := some 127) (bs 20 1048575) HT_ ?_
                             refine done_ (done_of HT_.out (by kernel_rfl)) ?_
                             try go_wp2
                             go_roundg kj32
                             case measure => have := HK1.out; have := HK2.out; have := HJ23.out; have := HJ32.out; omega
                             case rel => exact ⟨(y185), (y183), (y184), (wrap64 (x9_2 + 1)), (x11_2), (wrap64 (x12_2 + 1)), (by (rfl)), (by (rfl)), (by (rfl)), H', ⟨by have := HK1.out; have := HK2.out; have := HJ23.out; have := HJ32.out; omega⟩, ⟨HO_0.out⟩, ⟨HO_6.out⟩, ⟨HO_7.out⟩, ⟨HO_8.out⟩, ⟨HB.out⟩⟩
                           ·rw [if_neg c61] at H
                            exact absurd H (by simp)
                          ·rw [if_neg c60] at H
                           exact absurd H (by simp)
                        ·as_aux_lemma =>
                         rw [if_neg c52] at H
                         have c52b0 : decide (0 < (rd y183 x12_2)) = false := decide_eq_false c52
                         clear c52
                         have H' := Aside0.mk H
                         clear H
                         have p179 : 0 ≤ (x9_2 : Int) := of_decide_eq_true (by (with_reducible assumption))
                         have q179 : x9_2 < (l1.length : Int) := of_decide_eq_true (by (with_reducible assumption))
                         obtain ⟨ad179, e179, hx179_0⟩ := Kd.at_int HR1.out x9_2 p179 q179
                         cases e179
                         replace hx179_0 := (HB.out.cell (World.block_lt_of_cell? w _ hx179_0)).trans hx179_0
                         replace p179 := eq_true p179
                         replace q179 := eq_true q179
                         try go_wp2
                         replace HO_0 := Aside0.mk (Kd.R_drew HO_0.out)
                         replace HO_6 := Aside0.mk (Kd.R_drew HO_6.out)
                         replace HO_7 := Aside0.mk (Kd.R_drew HO_7.out)
                         replace HO_8 := Aside0.mk (Kd.R_drew HO_8.out)
                         replace HB := Aside0.mk (below_drew1 HB.out)
                         have p180 : 0 ≤ (x12_2 : Int) := of_decide_eq_true (by (with_reducible assumption))
                         have q180 : x12_2 < (t160.length : Int) := of_decide_eq_true (by (with_reducible assumption))
                         obtain ⟨ad180, e180, hx180_0, hx180_1, hx180_2⟩ := at_T31 (Kd.R_reads' HO_0.out).2.2 x12_2 p180 q180
                         cases e180
                         replace p180 := eq_true p180
                         replace q180 := eq_true q180
                         have p181 : 0 ≤ (x12_2 : Int) := of_decide_eq_true (by (with_reducible assumption))
                         have q181 : x12_2 < (t160.length : Int) := of_decide_eq_true (by (with_reducible assumption))
                         obtain ⟨ad181, e181, hx181_0, hx181_1, hx181_2⟩ := at_T31 (Kd.R_reads' HO_0.out).2.2 x12_2 p181 q181
                         obtain rfl : ad180 = ad181 := (by injection e181)
                         replace p181 := eq_true p181
                         replace q181 := eq_true q181
                         have p182 : 0 ≤ (x12_2 : Int) := of_decide_eq_true (by (with_reducible assumption))
                         have q182 : x12_2 < (t160.length : Int) := of_decide_eq_true (by (with_reducible assumption))
                         obtain ⟨ad182, e182, hx182_0, hx182_1, hx182_2⟩ := at_T31 (Kd.R_reads' HO_0.out).2.2 x12_2 p182 q182
                         obtain rfl : ad180 = ad182 := (by injection e182)
                         replace p182 := eq_true p182
                         replace q182 := eq_true q182
                         have p47 : 0 ≤ (x12_2 : Int) := of_decide_eq_true (by (with_reducible assumption))
                         have q47 : (x12_2 : Int) < ((x7_2.length : Int) : Int) := of_decide_eq_true (by (with_reducible assumption))
                         obtain ⟨go47, co47, eo47, gb47, gl47, cl47, HG47⟩ := Kd.R_form HO_7.out (by omega)
                         ((cases eo47))
                         have GB47 := Aside0.mk gb47
                         have GG47 := Aside0.mk HG47
                         clear gb47 gl47 HG47
                         obtain ⟨hx47_0, hf47_0⟩ := Kd.R_celln 0 HO_7.out (x12_2 : Int) p47 q47
                         replace p47 := eq_true p47
                         replace q47 := eq_true q47
                         have HP76 := Kd.R_putn HO_7.out (x12_2 : Int) ((rd_T31 t160 x12_2).f0)
                         rw [← Ny183.out] at HP76
                         have HQ76 := Aside0.mk HP76
                         clear HP76
                         have p49 : 0 ≤ (x12_2 : Int) := of_decide_eq_true (by (with_reducible assumption))
                         have q49 : (x12_2 : Int) < ((x8_2.length : Int) : Int) := of_decide_eq_true (by (with_reducible assumption))
                         obtain ⟨go49, co49, eo49, gb49, gl49, cl49, HG49⟩ := Kd.R_form HO_8.out (by omega)
                         ((cases eo49))
                         have GB49 := Aside0.mk gb49
                         have GG49 := Aside0.mk HG49
                         clear gb49 gl49 HG49
                         obtain ⟨hx49_0, hf49_0⟩ := Kd.R_celln 0 (Kd.R_far (p := ⟨go47, (x12_2 : Int).toNat, none⟩) (Kd.R_mono HO_8.out (fun k_ hk => (⟨hk, fun e_ => hk.2 (by rw [e_]; rfl)⟩ : _ ∧ k_ ≠ go47))) (fun _ hk => hk.2) (.int .i64 ((rd_T31 t160 x12_2).f0))) (x12_2 : Int) p49 q49
                         replace p49 := eq_true p49
                         replace q49 := eq_true q49
                         have HP77 := Kd.R_putn (Kd.R_far (p := ⟨go47, (x12_2 : Int).toNat, none⟩) (Kd.R_mono HO_8.out (fun k_ hk => (⟨hk, fun e_ => hk.2 (by rw [e_]; rfl)⟩ : _ ∧ k_ ≠ go47))) (fun _ hk => hk.2) (.int .i64 ((rd_T31 t160 x12_2).f0))) (x12_2 : Int) (wrap64 (x10_1 + ((rd_T31 t160 x12_2).f1)))
                         rw [← Ny184.out] at HP77
                         have HQ77 := Aside0.mk HP77
                         clear HP77
                         have p51 : 0 ≤ (x12_2 : Int) := of_decide_eq_true (by (with_reducible assumption))
                         have q51 : (x12_2 : Int) < ((x6_2.length : Int) : Int) := of_decide_eq_true (by (with_reducible assumption))
                         obtain ⟨go51, co51, eo51, gb51, gl51, cl51, HG51⟩ := Kd.R_form HO_6.out (by omega)
                         ((cases eo51))
                         have GB51 := Aside0.mk gb51
                         have GG51 := Aside0.mk HG51
                         clear gb51 gl51 HG51
                         obtain ⟨hx51_0, hf51_0⟩ := Kd.R_celln 0 (Kd.R_far (p := ⟨go49, (x12_2 : Int).toNat, none⟩) (Kd.R_far (p := ⟨go47, (x12_2 : Int).toNat, none⟩) (Kd.R_mono (Kd.R_mono HO_6.out (fun k_ hk => (⟨hk, fun e_ => hk.1 (by rw [e_]; rfl)⟩ : _ ∧ k_ ≠ go47))) (fun k_ hk => (⟨hk, fun e_ => hk.1.2 (by rw [e_]; rfl)⟩ : _ ∧ k_ ≠ go49))) (fun _ hk => hk.1.2) (.int .i64 ((rd_T31 t160 x12_2).f0))) (fun _ hk => hk.2) (.int .i64 (wrap64 (x10_1 + ((rd_T31 t160 x12_2).f1))))) (x12_2 : Int) p51 q51
                         replace p51 := eq_true p51
                         replace q51 := eq_true q51
                         have HP78 := Kd.R_putn (Kd.R_far (p := ⟨go49, (x12_2 : Int).toNat, none⟩) (Kd.R_far (p := ⟨go47, (x12_2 : Int).toNat, none⟩) (Kd.R_mono (Kd.R_mono HO_6.out (fun k_ hk => (⟨hk, fun e_ => hk.1 (by rw [e_]; rfl)⟩ : _ ∧ k_ ≠ go47))) (fun k_ hk => (⟨hk, fun e_ => hk.1.2 (by rw [e_]; rfl)⟩ : _ ∧ k_ ≠ go49))) (fun _ hk => hk.1.2) (.int .i64 ((rd_T31 t160 x12_2).f0))) (fun _ hk => hk.2) (.int .i64 (wrap64 (x10_1 + ((rd_T31 t160 x12_2).f1))))) (x12_2 : Int) (wrap64 ((wrap64 (x10_1 + ((rd_T31 t160 x12_2).f2))) + (Go.bits .and .i64 (rd l1 x9_2) 15)))
                         rw [← Ny185.out] at HP78
                         have HQ78 := Aside0.mk HP78
                         clear HP78
                         refine start_ (n := 33) (S := fun w' => w'.cell? (ad180.add ((x12_2).toNat * 3)) = some (.int .i64 ((rd_T31 t160 x12_2).f0)) ∧ w'.cell? ⟨(ad180.add ((x12_2).toNat * 3)).block, (ad180.add ((x12_2).toNat * 3)).off + 1, none⟩ = some (.int .i64 ((rd_T31 t160 x12_2).f1)) ∧ w'.cell? ⟨(ad180.add ((x12_2).toNat * 3)).block, (ad180.add ((x12_2).toNat * 3)).off + 2, none⟩ = some (.int .i64 ((rd_T31 t160 x12_2).f2)) ∧ w'.cell? (ad180.add ((x12_2).toNat * 3)) = some (.int .i64 ((rd_T31 t160 x12_2).f0)) ∧ w'.cell? ⟨(ad180.add ((x12_2).toNat * 3)).block, (ad180.add ((x12_2).toNat * 3)).off + 1, none⟩ = some (.int .i64 ((rd_T31 t160 x12_2).f1)) ∧ w'.cell? ⟨(ad180.add ((x12_2).toNat * 3)).block, (ad180.add ((x12_2).toNat * 3)).off + 2, none⟩ = some (.int .i64 ((rd_T31 t160 x12_2).f2)) ∧ w'.cell? (ad180.add ((x12_2).toNat * 3)) = some (.int .i64 ((rd_T31 t160 x12_2).f0)) ∧ w'.cell? ⟨(ad180.add ((x12_2).toNat * 3)).block, (ad180.add ((x12_2).toNat * 3)).off + 1, none⟩ = some (.int .i64 ((rd_T31 t160 x12_2).f1)) ∧ w'.cell? ⟨(ad180.add ((x12_2).toNat * 3)).block, (ad180.add ((x12_2).toNat * 3)).off + 2, none⟩ = some (.int .i64 ((rd_T31 t160 x12_2).f2))) (ds := [28, 30, 32]) (bs 33 0) (by kernel_rfl) rfl rfl ⟨hx180_0, hx180_1, hx180_2, hx181_0, hx181_1, hx181_2, hx182_0, hx182_1, hx182_2⟩ (fun hHeld => ?_); refine with_tabW hortatorlaw9_DemandRun.tab23 hortatorlaw9_DemandRun.bits23 (fun HT_ HW_ => ?_)
                         generalize wc.drew = w75 at HO_0 HO_6 HO_7 HO_8 HB GG47 GG49 GG51 HQ76 HQ77 HQ78 hf47_0 hf49_0 hf51_0 hx180_0 hx180_1 hx180_2 hx181_0 hx181_1 hx181_2 hx182_0 hx182_1 hx182_2 hx47_0 hx49_0 hx51_0 hHeld ⊢
                         refine pureA_ (i := 0) (N := some 78) (bs 33 1) HT_ ?_
                         refine pureA_ (i := 1) (N := some 79) (bs 33 3) HT_ ?_
                         refine pureA_ (i := 2) (N := some 80) (bs 33 7) HT_ ?_
                         refine pureA_ (i := 3) (N := some 81) (bs 33 15) HT_ ?_
                         refine pureA_ (i := 4) (N := some 82) (bs 33 31) HT_ ?_
                         refine pureA_ (i := 5) (N := some 83) (bs 33 63) HT_ ?_
                         refine pureA_ (i := 6) (N := some 84) (bs 33 127) HT_ ?_
                         refine pureA_ (i := 7) (N := some 85) (bs 33 255) HT_ ?_
                         refine pureA_ (i := 8) (N := some 86) (bs 33 511) HT_ ?_
                         refine pureA_ (i := 9) (N := some 87) (bs 33 1023) HT_ ?_
                         refine pureA_ (i := 11) (N := some 89) (bs 33 3071) HT_ ?_
                         refine pureA_ (i := 12) (N := some 90) (bs 33 7167) HT_ ?_
                         refine pureA_ (i := 13) (N := some 91) (bs 33 15359) HT_ ?_
                         refine pureA_ (i := 14) (N := some 92) (bs 33 31743) HT_ ?_
                         refine pureA_ (i := 15) (N := some 93) (bs 33 64511) HT_ ?_
                         refine pureA_ (i := 18) (N := some 96) (bs 33 326655) HT_ ?_
                         refine pureA_ (i := 19) (N := some 97) (bs 33 850943) HT_ ?_
                         refine pureA_ (i := 20) (N := some 98) (bs 33 1899519) HT_ ?_
                         refine pureA_ (i := 21) (N := some 99) (bs 33 3996671) HT_ ?_
                         refine pureA_ (i := 22) (N := some 100) (bs 33 8190975) HT_ ?_
                         refine pureA_ (i := 25) (N := some 103) (bs 33 41745407) HT_ ?_
                         refine takeA_ (i := 10) (N := some 88) (bs 33 41746431) HT_ HW_ hHeld ?_
                         refine takeA_ (i := 16) (N := some 94) (bs 33 41811967) HT_ HW_ hHeld ?_
                         refine pureA_ (i := 17) (N := some 95) (bs 33 41943039) HT_ ?_
                         refine takeA_ (i := 23) (N := some 101) (bs 33 50331647) HT_ HW_ hHeld ?_
                         refine pureA_ (i := 24) (N := some 102) (bs 33 67108863) HT_ ?_
                         refine pureA_ (i := 26) (N := some 104) (bs 33 134217727) HT_ ?_
                         refine pureA_ (i := 27) (N := some 105) (bs 33 268435455) HT_ ?_
                         refine last_ (i := 28) (N := none) (bs 33 536870911) rfl rfl (one_of HT_.out (by kernel_rfl)) (by decide) (fun K hK => ?_)
                         refine skip_ (w1 := ?_) (by rfl) rfl ?_ ?_
                         rotate_left
                         ·go_simp
                          rfl
                         refine hK.out _ _ ?_
                         clear hK K
                         refine pureA_ (i := 29) (N := some 106) (bs 33 1073741823) HT_ ?_
                         refine last_ (i := 30) (N := none) (bs 33 2147483647) rfl rfl (one_of HT_.out (by kernel_rfl)) (by decide) (fun K hK => ?_)
                         refine skip_ (w1 := ?_) (by rfl) rfl ?_ ?_
                         rotate_left
                         ·go_simp
                          rfl
                         refine hK.out _ _ ?_
                         clear hK K
                         refine pureA_ (i := 31) (N := some 107) (bs 33 4294967295) HT_ ?_
                         refine last_ (i := 32) (N := none) (bs 33 8589934591) rfl rfl (one_of HT_.out (by kernel_rfl)) (by decide) (fun K hK => ?_)
                         refine skip_ (w1 := ?_) (by rfl) rfl ?_ ?_
                         rotate_left
                         ·go_simp
                          rfl
                         refine hK.out _ _ ?_
                         clear hK K
                         refine done_ (done_of HT_.out (by kernel_rfl)) ?_
                         try go_wp2
                         have n0_ : Aside0 (Kd.R k31 31 (((w75.setCell ⟨go47, (x12_2 : Int).toNat, none⟩ (.int .i64 ((rd_T31 t160 x12_2).f0))).setCell ⟨go49, (x12_2 : Int).toNat, none⟩ (.int .i64 (wrap64 (x10_1 + ((rd_T31 t160 x12_2).f1))))).setCell ⟨go51, (x12_2 : Int).toNat, none⟩ (.int .i64 (wrap64 ((wrap64 (x10_1 + ((rd_T31 t160 x12_2).f2))) + (Go.bits .and .i64 (rd l1 x9_2) 15))))) w.heap.size (fun _ => True) (.slice (some ad180) t160.length co12) t160) := ⟨by exact Kd.R_mono (Kd.R_far (p := ⟨go51, (x12_2 : Int).toNat, none⟩) (Kd.R_far (p := ⟨go49, (x12_2 : Int).toNat, none⟩) (Kd.R_far (p := ⟨go47, (x12_2 : Int).toNat, none⟩) (Kd.R_types (Kd.R_types (Kd.R_types HO_0.out GG47.out (by decide)) GG49.out (by decide)) GG51.out (by decide)) (fun _ hk => hk.1.1.2) (.int .i64 ((rd_T31 t160 x12_2).f0))) (fun _ hk => hk.1.2) (.int .i64 (wrap64 (x10_1 + ((rd_T31 t160 x12_2).f1))))) (fun _ hk => hk.2) (.int .i64 (wrap64 ((wrap64 (x10_1 + ((rd_T31 t160 x12_2).f2))) + (Go.bits .and .i64 (rd l1 x9_2) 15))))) (fun _ hk => trivial)⟩
                         have n1_ : Aside0 (Kd.R (Kd.int .i64) 2 (((w75.setCell ⟨go47, (x12_2 : Int).toNat, none⟩ (.int .i64 ((rd_T31 t160 x12_2).f0))).setCell ⟨go49, (x12_2 : Int).toNat, none⟩ (.int .i64 (wrap64 (x10_1 + ((rd_T31 t160 x12_2).f1))))).setCell ⟨go51, (x12_2 : Int).toNat, none⟩ (.int .i64 (wrap64 ((wrap64 (x10_1 + ((rd_T31 t160 x12_2).f2))) + (Go.bits .and .i64 (rd l1 x9_2) 15))))) w.heap.size (fun k_ => some k_ ≠ (.slice (some ⟨go47, 0, none⟩) x7_2.length co47 : Value).ownBlock ∧ some k_ ≠ (.slice (some ⟨go49, 0, none⟩) x8_2.length co49 : Value).ownBlock) (.slice (some ⟨go51, 0, none⟩) x6_2.length co51) y185) := ⟨by exact Kd.R_mono HQ78.out (fun _ hk => ⟨hk.1.1.1, hk.1.1.2⟩)⟩
                         have n2_ : Aside0 (Kd.R (Kd.int .i64) 2 (((w75.setCell ⟨go47, (x12_2 : Int).toNat, none⟩ (.int .i64 ((rd_T31 t160 x12_2).f0))).setCell ⟨go49, (x12_2 : Int).toNat, none⟩ (.int .i64 (wrap64 (x10_1 + ((rd_T31 t160 x12_2).f1))))).setCell ⟨go51, (x12_2 : Int).toNat, none⟩ (.int .i64 (wrap64 ((wrap64 (x10_1 + ((rd_T31 t160 x12_2).f2))) + (Go.bits .and .i64 (rd l1 x9_2) 15))))) w.heap.size (fun k_ => some k_ ≠ (.slice (some ⟨go51, 0, none⟩) x6_2.length co51 : Value).ownBlock ∧ some k_ ≠ (.slice (some ⟨go49, 0, none⟩) x8_2.length co49 : Value).ownBlock) (.slice (some ⟨go47, 0, none⟩) x7_2.length co47) y183) := ⟨by exact Kd.R_mono (Kd.R_far (p := ⟨go51, (x12_2 : Int).toNat, none⟩) (Kd.R_far (p := ⟨go49, (x12_2 : Int).toNat, none⟩) (Kd.R_mono (Kd.R_mono HQ76.out (fun k_ hk => (⟨hk, fun e_ => hk.2 (by rw [e_]; rfl)⟩ : _ ∧ k_ ≠ go49))) (fun k_ hk => (⟨hk, fun e_ => hk.1.1 (by rw [e_]; rfl)⟩ : _ ∧ k_ ≠ go51))) (fun _ hk => hk.1.2) (.int .i64 (wrap64 (x10_1 + ((rd_T31 t160 x12_2).f1))))) (fun _ hk => hk.2) (.int .i64 (wrap64 ((wrap64 (x10_1 + ((rd_T31 t160 x12_2).f2))) + (Go.bits .and .i64 (rd l1 x9_2) 15))))) (fun _ hk => ⟨hk.1.1.1, hk.1.1.2⟩)⟩
                         have n3_ : Aside0 (Kd.R (Kd.int .i64) 2 (((w75.setCell ⟨go47, (x12_2 : Int).toNat, none⟩ (.int .i64 ((rd_T31 t160 x12_2).f0))).setCell ⟨go49, (x12_2 : Int).toNat, none⟩ (.int .i64 (wrap64 (x10_1 + ((rd_T31 t160 x12_2).f1))))).setCell ⟨go51, (x12_2 : Int).toNat, none⟩ (.int .i64 (wrap64 ((wrap64 (x10_1 + ((rd_T31 t160 x12_2).f2))) + (Go.bits .and .i64 (rd l1 x9_2) 15))))) w.heap.size (fun k_ => some k_ ≠ (.slice (some ⟨go51, 0, none⟩) x6_2.length co51 : Value).ownBlock ∧ some k_ ≠ (.slice (some ⟨go47, 0, none⟩) x7_2.length co47 : Value).ownBlock) (.slice (some ⟨go49, 0, none⟩) x8_2.length co49) y184) := ⟨by exact Kd.R_mono (Kd.R_far (p := ⟨go51, (x12_2 : Int).toNat, none⟩) (Kd.R_mono HQ77.out (fun k_ hk => (⟨hk, fun e_ => hk.1.1 (by rw [e_]; rfl)⟩ : _ ∧ k_ ≠ go51))) (fun _ hk => hk.2) (.int .i64 (wrap64 ((wrap64 (x10_1 + ((rd_T31 t160 x12_2).f2))) + (Go.bits .and .i64 (rd l1 x9_2) 15))))) (fun _ hk => ⟨hk.1.1.1, hk.1.1.2⟩)⟩
                         have n4_ : Aside0 (Below w.heap.size w (((w75.setCell ⟨go47, (x12_2 : Int).toNat, none⟩ (.int .i64 ((rd_T31 t160 x12_2).f0))).setCell ⟨go49, (x12_2 : Int).toNat, none⟩ (.int .i64 (wrap64 (x10_1 + ((rd_T31 t160 x12_2).f1))))).setCell ⟨go51, (x12_2 : Int).toNat, none⟩ (.int .i64 (wrap64 ((wrap64 (x10_1 + ((rd_T31 t160 x12_2).f2))) + (Go.bits .and .i64 (rd l1 x9_2) 15)))))) := ⟨by repeat ((with_reducible first | exact HB.out | refine below_set ?_ GB47.out | refine below_set ?_ GB49.out | refine below_set ?_ GB51.out))⟩
                         (try clear HO_0)
                         (try clear HO_6)
                         (try clear HO_7)
                         (try clear HO_8)
                         (try clear HB)
                         generalize (((w75.setCell ⟨go47, (x12_2 : Int).toNat, none⟩ (.int .i64 ((rd_T31 t160 x12_2).f0))).setCell ⟨go49, (x12_2 : Int).toNat, none⟩ (.int .i64 (wrap64 (x10_1 + ((rd_T31 t160 x12_2).f1))))).setCell ⟨go51, (x12_2 : Int).toNat, none⟩ (.int .i64 (wrap64 ((wrap64 (x10_1 + ((rd_T31 t160 x12_2).f2))) + (Go.bits .and .i64 (rd l1 x9_2) 15))))) = w79 at n0_ n1_ n2_ n3_ n4_ ⊢
                         have HO_0 := n0_
                         have HO_6 := n1_
                         have HO_7 := n2_
                         have HO_8 := n3_
                         have HB := n4_
                         clear n0_ n1_ n2_ n3_ n4_
                         replace HO_0 := Aside0.mk (Kd.R_drew HO_0.out)
                         replace HO_6 := Aside0.mk (Kd.R_drew HO_6.out)
                         replace HO_7 := Aside0.mk (Kd.R_drew HO_7.out)
                         replace HO_8 := Aside0.mk (Kd.R_drew HO_8.out)
                         replace HB := Aside0.mk (below_drew1 HB.out)
                         have p186 : 0 ≤ (x12_2 : Int) := of_decide_eq_true (by (with_reducible assumption))
                         have q186 : x12_2 < (y183.length : Int) := (by have h_ : (x12_2 : Int) < ((x7_2.length : Int) : Int) := of_decide_eq_true (by (with_reducible assumption)); (have e_ := (Kd.R_reads' HO_7.out).1; omega))
                         have ql186 : ((x12_2 : Int) < ((x7_2.length : Int) : Int)) = True := eq_true (of_decide_eq_true (by (with_reducible assumption)))
                         obtain ⟨ad186, e186, hx186_0⟩ := Kd.at_int (Kd.R_reads' HO_7.out).2.2 x12_2 p186 q186
                         obtain rfl : (⟨go47, 0, none⟩ : Addr) = ad186 := (by injection e186)
                         ((simp only [add_at] at hx186_0))
                         (try simp only [Nat.zero_add] at hx186_0)
                         replace p186 := eq_true p186
                         replace q186 := eq_true q186
                         refine start_ (n := 20) (S := fun w' => w'.cell? ⟨go47, (x12_2).toNat, none⟩ = some (.int .i64 (rd y183 x12_2))) (ds := []) (bs 20 0) (by kernel_rfl) rfl rfl (hx186_0) (fun hHeld => ?_); refine with_tabW hortatorlaw9_DemandRun.tab24 hortatorlaw9_DemandRun.bits24 (fun HT_ HW_ => ?_)
                         generalize w79.drew = w80 at HO_0 HO_6 HO_7 HO_8 HB HQ76 HQ77 HQ78 hx186_0 hHeld ⊢
                         refine pureA_ (i := 0) (N := some 108) (bs 20 1) HT_ ?_
                         refine pureA_ (i := 1) (N := some 109) (bs 20 3) HT_ ?_
                         refine pureA_ (i := 2) (N := some 110) (bs 20 7) HT_ ?_
                         refine take_ (i := 3) (N := some 111) (v := ?_) (a' := ?_) (bs 20 15) rfl rfl (take_ofW HT_.out HW_.out (by kernel_rfl)) (fun _ _ _ h => h) (Or.inl ⟨by rfl, ?_⟩) hHeld ?_ ?_
                         rotate_left
                         ·intro w' s0
                          go_simp
                          with_reducible rfl
                         rotate_left
                         ·simp only [Act.put, List.setIfInBounds_toArray, List.set_cons_zero, List.set_cons_succ, i64_w, i32_w]
                          rfl
                         refine pureA_ (i := 4) (N := some 112) (bs 20 31) HT_ ?_
                         refine pureA_ (i := 5) (N := some 113) (bs 20 63) HT_ ?_
                         refine pureB_ (i := 6) (N := some 114) (bs 20 127) HT_ ?_
                         refine pureB_ (i := 7) (N := some 115) (bs 20 255) HT_ ?_
                         refine pureB_ (i := 8) (N := some 116) (bs 20 511) HT_ ?_
                         refine pureB_ (i := 9) (N := some 117) (bs 20 1023) HT_ ?_
                         refine pureB_ (i := 10) (N := some 118) (bs 20 2047) HT_ ?_
                         refine pureB_ (i := 11) (N := some 119) (bs 20 4095) HT_ ?_
                         refine pureB_ (i := 12) (N := some 120) (bs 20 8191) HT_ ?_
                         refine pureB_ (i := 13) (N := some 121) (bs 20 16383) HT_ ?_
                         refine pureB_ (i := 14) (N := some 122) (bs 20 32767) HT_ ?_
                         refine pureB_ (i := 15) (N := some 123) (bs 20 65535) HT_ ?_
                         refine pureB_ (i := 16) (N := some 124) (bs 20 131071) HT_ ?_
                         refine pureB_ (i := 17) (N := some 125) (bs 20 262143) HT_ ?_
                         refine pureB_ (i := 18) (N := some 126) (bs 20 524287) HT_ ?_
                         refine pureA_ (i := 19) (N := some 127) (bs 20 1048575) HT_ ?_
                         refine done_ (done_of HT_.out (by kernel_rfl)) ?_
                         try go_wp2
                         go_roundg kj32
                         case measure => have := HK1.out; have := HK2.out; have := HJ23.out; have := HJ32.out; omega
                         case rel => exact ⟨(y185), (y183), (y184), (wrap64 (x9_2 + 1)), (x11_2), (wrap64 (x12_2 + 1)), (by (rfl)), (by (rfl)), (by (rfl)), H', ⟨by have := HK1.out; have := HK2.out; have := HJ23.out; have := HJ32.out; omega⟩, ⟨HO_0.out⟩, ⟨HO_6.out⟩, ⟨HO_7.out⟩, ⟨HO_8.out⟩, ⟨HB.out⟩⟩
                       ·rw [if_neg c50] at H
                        exact absurd H (by simp)
                      ·rw [if_neg c48] at H
                       exact absurd H (by simp)
                     ·rw [if_neg c46] at H
                      exact absurd H (by simp)
                    ·rw [if_neg c45] at H
                     exact absurd H (by simp)
                   ·rw [if_neg c44] at H
                    exact absurd H (by simp)
                  ·rw [if_neg c43] at H
                   exact absurd H (by simp)
                 ·rw [if_neg c42] at H
                  have c42b0 : decide (x9_2 < (l1.length : Int)) = false := decide_eq_false c42
                  clear c42
                  by_cases c81 : 0 ≤ x12_2
                  ·rw [if_pos c81] at H
                   have c81b0 : decide (0 ≤ x12_2) = true := decide_eq_true c81
                   clear c81
                   by_cases c82 : x12_2 < (t160.length : Int)
                   ·rw [if_pos c82] at H
                    have c82b0 : decide (x12_2 < (t160.length : Int)) = true := decide_eq_true c82
                    clear c82
                    by_cases c83 : x12_2 < (x7_2.length : Int)
                    ·rw [if_pos c83] at H
                     have c83b0 : decide (x12_2 < (x7_2.length : Int)) = true := decide_eq_true c83
                     clear c83
                     obtain ⟨y192, hy192⟩ : ∃ y_ : List Int, y_ = (x7_2.set (x12_2 : Int).toNat ((rd_T31 t160 x12_2).f0)) := ⟨_, rfl⟩
                     replace H : (if x12_2 < (x8_2.length : Int) then ((some (x8_2.set (x12_2 : Int).toNat (wrap64 (x10_1 + ((rd_T31 t160 x12_2).f1))) : List Int)).bind fun y193 => (if x12_2 < (x6_2.length : Int) then ((some (x6_2.set (x12_2 : Int).toNat (wrap64 (wrap64 (x10_1 + ((rd_T31 t160 x12_2).f2)))) : List Int)).bind fun y194 => (if (rd y192 x12_2) > 0 then (if x11_2 < 0 then (hortatorlaw9_DemandRun.l1 kj32 t160 l1 y194 y192 y193 (wrap64 (x9_2 + 1)) x10_1 x12_2 (wrap64 (x12_2 + 1))) else (if 0 ≤ x11_2 then (if x11_2 < (x8_2.length : Int) then (if (rd y193 x12_2) < (rd y193 x11_2) then (hortatorlaw9_DemandRun.l1 kj32 t160 l1 y194 y192 y193 (wrap64 (x9_2 + 1)) x10_1 x12_2 (wrap64 (x12_2 + 1))) else (hortatorlaw9_DemandRun.l1 kj32 t160 l1 y194 y192 y193 (wrap64 (x9_2 + 1)) x10_1 x11_2 (wrap64 (x12_2 + 1)))) else (none)) else (none))) else (hortatorlaw9_DemandRun.l1 kj32 t160 l1 y194 y192 y193 (wrap64 (x9_2 + 1)) x10_1 x11_2 (wrap64 (x12_2 + 1))))) else (none))) else (none)) = some r := by (have H2_ := (Option.bind_some _ _).symm.trans H; rw [hy192]; with_reducible exact H2_)
                     have Ny192 := Aside0.mk hy192
                     clear hy192
                     by_cases c85 : x12_2 < (x8_2.length : Int)
                     ·rw [if_pos c85] at H
                      have c85b0 : decide (x12_2 < (x8_2.length : Int)) = true := decide_eq_true c85
                      clear c85
                      obtain ⟨y193, hy193⟩ : ∃ y_ : List Int, y_ = (x8_2.set (x12_2 : Int).toNat (wrap64 (x10_1 + ((rd_T31 t160 x12_2).f1)))) := ⟨_, rfl⟩
                      replace H : (if x12_2 < (x6_2.length : Int) then ((some (x6_2.set (x12_2 : Int).toNat (wrap64 (wrap64 (x10_1 + ((rd_T31 t160 x12_2).f2)))) : List Int)).bind fun y194 => (if (rd y192 x12_2) > 0 then (if x11_2 < 0 then (hortatorlaw9_DemandRun.l1 kj32 t160 l1 y194 y192 y193 (wrap64 (x9_2 + 1)) x10_1 x12_2 (wrap64 (x12_2 + 1))) else (if 0 ≤ x11_2 then (if x11_2 < (x8_2.length : Int) then (if (rd y193 x12_2) < (rd y193 x11_2) then (hortatorlaw9_DemandRun.l1 kj32 t160 l1 y194 y192 y193 (wrap64 (x9_2 + 1)) x10_1 x12_2 (wrap64 (x12_2 + 1))) else (hortatorlaw9_DemandRun.l1 kj32 t160 l1 y194 y192 y193 (wrap64 (x9_2 + 1)) x10_1 x11_2 (wrap64 (x12_2 + 1)))) else (none)) else (none))) else (hortatorlaw9_DemandRun.l1 kj32 t160 l1 y194 y192 y193 (wrap64 (x9_2 + 1)) x10_1 x11_2 (wrap64 (x12_2 + 1))))) else (none)) = some r := by (have H2_ := (Option.bind_some _ _).symm.trans H; rw [hy193]; with_reducible exact H2_)
                      have Ny193 := Aside0.mk hy193
                      clear hy193
                      by_cases c87 : x12_2 < (x6_2.length : Int)
                      ·rw [if_pos c87] at H
                       have c87b0 : decide (x12_2 < (x6_2.length : Int)) = true := decide_eq_true c87
                       clear c87
                       obtain ⟨y194, hy194⟩ : ∃ y_ : List Int, y_ = (x6_2.set (x12_2 : Int).toNat (wrap64 (wrap64 (x10_1 + ((rd_T31 t160 x12_2).f2))))) := ⟨_, rfl⟩
                       replace H : (if (rd y192 x12_2) > 0 then (if x11_2 < 0 then (hortatorlaw9_DemandRun.l1 kj32 t160 l1 y194 y192 y193 (wrap64 (x9_2 + 1)) x10_1 x12_2 (wrap64 (x12_2 + 1))) else (if 0 ≤ x11_2 then (if x11_2 < (x8_2.length : Int) then (if (rd y193 x12_2) < (rd y193 x11_2) then (hortatorlaw9_DemandRun.l1 kj32 t160 l1 y194 y192 y193 (wrap64 (x9_2 + 1)) x10_1 x12_2 (wrap64 (x12_2 + 1))) else (hortatorlaw9_DemandRun.l1 kj32 t160 l1 y194 y192 y193 (wrap64 (x9_2 + 1)) x10_1 x11_2 (wrap64 (x12_2 + 1)))) else (none)) else (none))) else (hortatorlaw9_DemandRun.l1 kj32 t160 l1 y194 y192 y193 (wrap64 (x9_2 + 1)) x10_1 x11_2 (wrap64 (x12_2 + 1)))) = some r := by (have H2_ := (Option.bind_some _ _).symm.trans H; rw [hy194]; with_reducible exact H2_)
                       have Ny194 := Aside0.mk hy194
                       clear hy194
                       by_cases c89 : (rd y192 x12_2) > 0
                       ·rw [if_pos c89] at H
                        have c89b0 : decide (0 < (rd y192 x12_2)) = true := decide_eq_true c89
                        clear c89
                        by_cases c90 : x11_2 < 0
                        ·as_aux_lemma =>
                         rw [if_pos c90] at H
                         have c90b0 : decide (x11_2 < 0) = true := decide_eq_true c90
                         clear c90
                         have H' := Aside0.mk H
                         clear H
                         try go_wp2
                         replace HO_0 := Aside0.mk (Kd.R_drew HO_0.out)
                         replace HO_6 := Aside0.mk (Kd.R_drew HO_6.out)
                         replace HO_7 := Aside0.mk (Kd.R_drew HO_7.out)
                         replace HO_8 := Aside0.mk (Kd.R_drew HO_8.out)
                         replace HB := Aside0.mk (below_drew1 HB.out)
                         have p189 : 0 ≤ (x12_2 : Int) := of_decide_eq_true (by (with_reducible assumption))
                         have q189 : x12_2 < (t160.length : Int) := of_decide_eq_true (by (with_reducible assumption))
                         obtain ⟨ad189, e189, hx189_0, hx189_1, hx189_2⟩ := at_T31 (Kd.R_reads' HO_0.out).2.2 x12_2 p189 q189
                         cases e189
                         replace p189 := eq_true p189
                         replace q189 := eq_true q189
                         have p190 : 0 ≤ (x12_2 : Int) := of_decide_eq_true (by (with_reducible assumption))
                         have q190 : x12_2 < (t160.length : Int) := of_decide_eq_true (by (with_reducible assumption))
                         obtain ⟨ad190, e190, hx190_0, hx190_1, hx190_2⟩ := at_T31 (Kd.R_reads' HO_0.out).2.2 x12_2 p190 q190
                         obtain rfl : ad189 = ad190 := (by injection e190)
                         replace p190 := eq_true p190
                         replace q190 := eq_true q190
                         have p191 : 0 ≤ (x12_2 : Int) := of_decide_eq_true (by (with_reducible assumption))
                         have q191 : x12_2 < (t160.length : Int) := of_decide_eq_true (by (with_reducible assumption))
                         obtain ⟨ad191, e191, hx191_0, hx191_1, hx191_2⟩ := at_T31 (Kd.R_reads' HO_0.out).2.2 x12_2 p191 q191
                         obtain rfl : ad189 = ad191 := (by injection e191)
                         replace p191 := eq_true p191
                         replace q191 := eq_true q191
                         have p84 : 0 ≤ (x12_2 : Int) := of_decide_eq_true (by (with_reducible assumption))
                         have q84 : (x12_2 : Int) < ((x7_2.length : Int) : Int) := of_decide_eq_true (by (with_reducible assumption))
                         obtain ⟨go84, co84, eo84, gb84, gl84, cl84, HG84⟩ := Kd.R_form HO_7.out (by omega)
                         ((cases eo84))
                         have GB84 := Aside0.mk gb84
                         have GG84 := Aside0.mk HG84
                         clear gb84 gl84 HG84
                         obtain ⟨hx84_0, hf84_0⟩ := Kd.R_celln 0 HO_7.out (x12_2 : Int) p84 q84
                         replace p84 := eq_true p84
                         replace q84 := eq_true q84
                         have HP92 := Kd.R_putn HO_7.out (x12_2 : Int) ((rd_T31 t160 x12_2).f0)
                         rw [← Ny192.out] at HP92
                         have HQ92 := Aside0.mk HP92
                         clear HP92
                         have p86 : 0 ≤ (x12_2 : Int) := of_decide_eq_true (by (with_reducible assumption))
                         have q86 : (x12_2 : Int) < ((x8_2.length : Int) : Int) := of_decide_eq_true (by (with_reducible assumption))
                         obtain ⟨go86, co86, eo86, gb86, gl86, cl86, HG86⟩ := Kd.R_form HO_8.out (by omega)
                         ((cases eo86))
                         have GB86 := Aside0.mk gb86
                         have GG86 := Aside0.mk HG86
                         clear gb86 gl86 HG86
                         obtain ⟨hx86_0, hf86_0⟩ := Kd.R_celln 0 (Kd.R_far (p := ⟨go84, (x12_2 : Int).toNat, none⟩) (Kd.R_mono HO_8.out (fun k_ hk => (⟨hk, fun e_ => hk.2 (by rw [e_]; rfl)⟩ : _ ∧ k_ ≠ go84))) (fun _ hk => hk.2) (.int .i64 ((rd_T31 t160 x12_2).f0))) (x12_2 : Int) p86 q86
                         replace p86 := eq_true p86
                         replace q86 := eq_true q86
                         have HP93 := Kd.R_putn (Kd.R_far (p := ⟨go84, (x12_2 : Int).toNat, none⟩) (Kd.R_mono HO_8.out (fun k_ hk => (⟨hk, fun e_ => hk.2 (by rw [e_]; rfl)⟩ : _ ∧ k_ ≠ go84))) (fun _ hk => hk.2) (.int .i64 ((rd_T31 t160 x12_2).f0))) (x12_2 : Int) (wrap64 (x10_1 + ((rd_T31 t160 x12_2).f1)))
                         rw [← Ny193.out] at HP93
                         have HQ93 := Aside0.mk HP93
                         clear HP93
                         have p88 : 0 ≤ (x12_2 : Int) := of_decide_eq_true (by (with_reducible assumption))
                         have q88 : (x12_2 : Int) < ((x6_2.length : Int) : Int) := of_decide_eq_true (by (with_reducible assumption))
                         obtain ⟨go88, co88, eo88, gb88, gl88, cl88, HG88⟩ := Kd.R_form HO_6.out (by omega)
                         ((cases eo88))
                         have GB88 := Aside0.mk gb88
                         have GG88 := Aside0.mk HG88
                         clear gb88 gl88 HG88
                         obtain ⟨hx88_0, hf88_0⟩ := Kd.R_celln 0 (Kd.R_far (p := ⟨go86, (x12_2 : Int).toNat, none⟩) (Kd.R_far (p := ⟨go84, (x12_2 : Int).toNat, none⟩) (Kd.R_mono (Kd.R_mono HO_6.out (fun k_ hk => (⟨hk, fun e_ => hk.1 (by rw [e_]; rfl)⟩ : _ ∧ k_ ≠ go84))) (fun k_ hk => (⟨hk, fun e_ => hk.1.2 (by rw [e_]; rfl)⟩ : _ ∧ k_ ≠ go86))) (fun _ hk => hk.1.2) (.int .i64 ((rd_T31 t160 x12_2).f0))) (fun _ hk => hk.2) (.int .i64 (wrap64 (x10_1 + ((rd_T31 t160 x12_2).f1))))) (x12_2 : Int) p88 q88
                         replace p88 := eq_true p88
                         replace q88 := eq_true q88
                         have HP94 := Kd.R_putn (Kd.R_far (p := ⟨go86, (x12_2 : Int).toNat, none⟩) (Kd.R_far (p := ⟨go84, (x12_2 : Int).toNat, none⟩) (Kd.R_mono (Kd.R_mono HO_6.out (fun k_ hk => (⟨hk, fun e_ => hk.1 (by rw [e_]; rfl)⟩ : _ ∧ k_ ≠ go84))) (fun k_ hk => (⟨hk, fun e_ => hk.1.2 (by rw [e_]; rfl)⟩ : _ ∧ k_ ≠ go86))) (fun _ hk => hk.1.2) (.int .i64 ((rd_T31 t160 x12_2).f0))) (fun _ hk => hk.2) (.int .i64 (wrap64 (x10_1 + ((rd_T31 t160 x12_2).f1))))) (x12_2 : Int) (wrap64 (wrap64 (x10_1 + ((rd_T31 t160 x12_2).f2))))
                         rw [← Ny194.out] at HP94
                         have HQ94 := Aside0.mk HP94
                         clear HP94
                         refine start_ (n := 33) (S := fun w' => w'.cell? (ad189.add ((x12_2).toNat * 3)) = some (.int .i64 ((rd_T31 t160 x12_2).f0)) ∧ w'.cell? ⟨(ad189.add ((x12_2).toNat * 3)).block, (ad189.add ((x12_2).toNat * 3)).off + 1, none⟩ = some (.int .i64 ((rd_T31 t160 x12_2).f1)) ∧ w'.cell? ⟨(ad189.add ((x12_2).toNat * 3)).block, (ad189.add ((x12_2).toNat * 3)).off + 2, none⟩ = some (.int .i64 ((rd_T31 t160 x12_2).f2)) ∧ w'.cell? (ad189.add ((x12_2).toNat * 3)) = some (.int .i64 ((rd_T31 t160 x12_2).f0)) ∧ w'.cell? ⟨(ad189.add ((x12_2).toNat * 3)).block, (ad189.add ((x12_2).toNat * 3)).off + 1, none⟩ = some (.int .i64 ((rd_T31 t160 x12_2).f1)) ∧ w'.cell? ⟨(ad189.add ((x12_2).toNat * 3)).block, (ad189.add ((x12_2).toNat * 3)).off + 2, none⟩ = some (.int .i64 ((rd_T31 t160 x12_2).f2)) ∧ w'.cell? (ad189.add ((x12_2).toNat * 3)) = some (.int .i64 ((rd_T31 t160 x12_2).f0)) ∧ w'.cell? ⟨(ad189.add ((x12_2).toNat * 3)).block, (ad189.add ((x12_2).toNat * 3)).off + 1, none⟩ = some (.int .i64 ((rd_T31 t160 x12_2).f1)) ∧ w'.cell? ⟨(ad189.add ((x12_2).toNat * 3)).block, (ad189.add ((x12_2).toNat * 3)).off + 2, none⟩ = some (.int .i64 ((rd_T31 t160 x12_2).f2))) (ds := [28, 30, 32]) (bs 33 0) (by kernel_rfl) rfl rfl ⟨hx189_0, hx189_1, hx189_2, hx190_0, hx190_1, hx190_2, hx191_0, hx191_1, hx191_2⟩ (fun hHeld => ?_); refine with_tabW hortatorlaw9_DemandRun.tab23 hortatorlaw9_DemandRun.bits23 (fun HT_ HW_ => ?_)
                         generalize wc.drew = w91 at HO_0 HO_6 HO_7 HO_8 HB GG84 GG86 GG88 HQ92 HQ93 HQ94 hf84_0 hf86_0 hf88_0 hx189_0 hx189_1 hx189_2 hx190_0 hx190_1 hx190_2 hx191_0 hx191_1 hx191_2 hx84_0 hx86_0 hx88_0 hHeld ⊢
                         refine pureA_ (i := 0) (N := some 78) (bs 33 1) HT_ ?_
                         refine pureA_ (i := 1) (N := some 79) (bs 33 3) HT_ ?_
                         refine pureA_ (i := 2) (N := some 80) (bs 33 7) HT_ ?_
                         refine pureA_ (i := 3) (N := some 81) (bs 33 15) HT_ ?_
                         refine pureA_ (i := 4) (N := some 82) (bs 33 31) HT_ ?_
                         refine pureA_ (i := 5) (N := some 83) (bs 33 63) HT_ ?_
                         refine pureA_ (i := 6) (N := some 84) (bs 33 127) HT_ ?_
                         refine pureA_ (i := 7) (N := some 85) (bs 33 255) HT_ ?_
                         refine pureA_ (i := 8) (N := some 86) (bs 33 511) HT_ ?_
                         refine pureA_ (i := 9) (N := some 87) (bs 33 1023) HT_ ?_
                         refine pureA_ (i := 11) (N := some 89) (bs 33 3071) HT_ ?_
                         refine pureA_ (i := 12) (N := some 90) (bs 33 7167) HT_ ?_
                         refine pureA_ (i := 13) (N := some 91) (bs 33 15359) HT_ ?_
                         refine pureA_ (i := 14) (N := some 92) (bs 33 31743) HT_ ?_
                         refine pureA_ (i := 15) (N := some 93) (bs 33 64511) HT_ ?_
                         refine pureA_ (i := 18) (N := some 96) (bs 33 326655) HT_ ?_
                         refine pureA_ (i := 19) (N := some 97) (bs 33 850943) HT_ ?_
                         refine pureA_ (i := 20) (N := some 98) (bs 33 1899519) HT_ ?_
                         refine pureA_ (i := 21) (N := some 99) (bs 33 3996671) HT_ ?_
                         refine pureA_ (i := 22) (N := some 100) (bs 33 8190975) HT_ ?_
                         refine pureA_ (i := 25) (N := some 103) (bs 33 41745407) HT_ ?_
                         refine takeA_ (i := 10) (N := some 88) (bs 33 41746431) HT_ HW_ hHeld ?_
                         refine takeA_ (i := 16) (N := some 94) (bs 33 41811967) HT_ HW_ hHeld ?_
                         refine pureA_ (i := 17) (N := some 95) (bs 33 41943039) HT_ ?_
                         refine takeA_ (i := 23) (N := some 101) (bs 33 50331647) HT_ HW_ hHeld ?_
                         refine pureA_ (i := 24) (N := some 102) (bs 33 67108863) HT_ ?_
                         refine pureA_ (i := 26) (N := some 104) (bs 33 134217727) HT_ ?_
                         refine pureA_ (i := 27) (N := some 105) (bs 33 268435455) HT_ ?_
                         refine last_ (i := 28) (N := none) (bs 33 536870911) rfl rfl (one_of HT_.out (by kernel_rfl)) (by decide) (fun K hK => ?_)
                         refine skip_ (w1 := ?_) (by rfl) rfl ?_ ?_
                         rotate_left
                         ·go_simp
                          rfl
                         refine hK.out _ _ ?_
                         clear hK K
                         refine pureA_ (i := 29) (N := some 106) (bs 33 1073741823) HT_ ?_
                         refine last_ (i := 30) (N := none) (bs 33 2147483647) rfl rfl (one_of HT_.out (by kernel_rfl)) (by decide) (fun K hK => ?_)
                         refine skip_ (w1 := ?_) (by rfl) rfl ?_ ?_
                         rotate_left
                         ·go_simp
                          rfl
                         refine hK.out _ _ ?_
                         clear hK K
                         refine pureA_ (i := 31) (N := some 107) (bs 33 4294967295) HT_ ?_
                         refine last_ (i := 32) (N := none) (bs 33 8589934591) rfl rfl (one_of HT_.out (by kernel_rfl)) (by decide) (fun K hK => ?_)
                         refine skip_ (w1 := ?_) (by rfl) rfl ?_ ?_
                         rotate_left
                         ·go_simp
                          rfl
                         refine hK.out _ _ ?_
                         clear hK K
                         refine done_ (done_of HT_.out (by kernel_rfl)) ?_
                         try go_wp2
                         have n0_ : Aside0 (Kd.R k31 31 (((w91.setCell ⟨go84, (x12_2 : Int).toNat, none⟩ (.int .i64 ((rd_T31 t160 x12_2).f0))).setCell ⟨go86, (x12_2 : Int).toNat, none⟩ (.int .i64 (wrap64 (x10_1 + ((rd_T31 t160 x12_2).f1))))).setCell ⟨go88, (x12_2 : Int).toNat, none⟩ (.int .i64 (wrap64 (wrap64 (x10_1 + ((rd_T31 t160 x12_2).f2)))))) w.heap.size (fun _ => True) (.slice (some ad189) t160.length co12) t160) := ⟨by exact Kd.R_mono (Kd.R_far (p := ⟨go88, (x12_2 : Int).toNat, none⟩) (Kd.R_far (p := ⟨go86, (x12_2 : Int).toNat, none⟩) (Kd.R_far (p := ⟨go84, (x12_2 : Int).toNat, none⟩) (Kd.R_types (Kd.R_types (Kd.R_types HO_0.out GG84.out (by decide)) GG86.out (by decide)) GG88.out (by decide)) (fun _ hk => hk.1.1.2) (.int .i64 ((rd_T31 t160 x12_2).f0))) (fun _ hk => hk.1.2) (.int .i64 (wrap64 (x10_1 + ((rd_T31 t160 x12_2).f1))))) (fun _ hk => hk.2) (.int .i64 (wrap64 (wrap64 (x10_1 + ((rd_T31 t160 x12_2).f2)))))) (fun _ hk => trivial)⟩
                         have n1_ : Aside0 (Kd.R (Kd.int .i64) 2 (((w91.setCell ⟨go84, (x12_2 : Int).toNat, none⟩ (.int .i64 ((rd_T31 t160 x12_2).f0))).setCell ⟨go86, (x12_2 : Int).toNat, none⟩ (.int .i64 (wrap64 (x10_1 + ((rd_T31 t160 x12_2).f1))))).setCell ⟨go88, (x12_2 : Int).toNat, none⟩ (.int .i64 (wrap64 (wrap64 (x10_1 + ((rd_T31 t160 x12_2).f2)))))) w.heap.size (fun k_ => some k_ ≠ (.slice (some ⟨go84, 0, none⟩) x7_2.length co84 : Value).ownBlock ∧ some k_ ≠ (.slice (some ⟨go86, 0, none⟩) x8_2.length co86 : Value).ownBlock) (.slice (some ⟨go88, 0, none⟩) x6_2.length co88) y194) := ⟨by exact Kd.R_mono HQ94.out (fun _ hk => ⟨hk.1.1.1, hk.1.1.2⟩)⟩
                         have n2_ : Aside0 (Kd.R (Kd.int .i64) 2 (((w91.setCell ⟨go84, (x12_2 : Int).toNat, none⟩ (.int .i64 ((rd_T31 t160 x12_2).f0))).setCell ⟨go86, (x12_2 : Int).toNat, none⟩ (.int .i64 (wrap64 (x10_1 + ((rd_T31 t160 x12_2).f1))))).setCell ⟨go88, (x12_2 : Int).toNat, none⟩ (.int .i64 (wrap64 (wrap64 (x10_1 + ((rd_T31 t160 x12_2).f2)))))) w.heap.size (fun k_ => some k_ ≠ (.slice (some ⟨go88, 0, none⟩) x6_2.length co88 : Value).ownBlock ∧ some k_ ≠ (.slice (some ⟨go86, 0, none⟩) x8_2.length co86 : Value).ownBlock) (.slice (some ⟨go84, 0, none⟩) x7_2.length co84) y192) := ⟨by exact Kd.R_mono (Kd.R_far (p := ⟨go88, (x12_2 : Int).toNat, none⟩) (Kd.R_far (p := ⟨go86, (x12_2 : Int).toNat, none⟩) (Kd.R_mono (Kd.R_mono HQ92.out (fun k_ hk => (⟨hk, fun e_ => hk.2 (by rw [e_]; rfl)⟩ : _ ∧ k_ ≠ go86))) (fun k_ hk => (⟨hk, fun e_ => hk.1.1 (by rw [e_]; rfl)⟩ : _ ∧ k_ ≠ go88))) (fun _ hk => hk.1.2) (.int .i64 (wrap64 (x10_1 + ((rd_T31 t160 x12_2).f1))))) (fun _ hk => hk.2) (.int .i64 (wrap64 (wrap64 (x10_1 + ((rd_T31 t160 x12_2).f2)))))) (fun _ hk => ⟨hk.1.1.1, hk.1.1.2⟩)⟩
                         have n3_ : Aside0 (Kd.R (Kd.int .i64) 2 (((w91.setCell ⟨go84, (x12_2 : Int).toNat, none⟩ (.int .i64 ((rd_T31 t160 x12_2).f0))).setCell ⟨go86, (x12_2 : Int).toNat, none⟩ (.int .i64 (wrap64 (x10_1 + ((rd_T31 t160 x12_2).f1))))).setCell ⟨go88, (x12_2 : Int).toNat, none⟩ (.int .i64 (wrap64 (wrap64 (x10_1 + ((rd_T31 t160 x12_2).f2)))))) w.heap.size (fun k_ => some k_ ≠ (.slice (some ⟨go88, 0, none⟩) x6_2.length co88 : Value).ownBlock ∧ some k_ ≠ (.slice (some ⟨go84, 0, none⟩) x7_2.length co84 : Value).ownBlock) (.slice (some ⟨go86, 0, none⟩) x8_2.length co86) y193) := ⟨by exact Kd.R_mono (Kd.R_far (p := ⟨go88, (x12_2 : Int).toNat, none⟩) (Kd.R_mono HQ93.out (fun k_ hk => (⟨hk, fun e_ => hk.1.1 (by rw [e_]; rfl)⟩ : _ ∧ k_ ≠ go88))) (fun _ hk => hk.2) (.int .i64 (wrap64 (wrap64 (x10_1 + ((rd_T31 t160 x12_2).f2)))))) (fun _ hk => ⟨hk.1.1.1, hk.1.1.2⟩)⟩
                         have n4_ : Aside0 (Below w.heap.size w (((w91.setCell ⟨go84, (x12_2 : Int).toNat, none⟩ (.int .i64 ((rd_T31 t160 x12_2).f0))).setCell ⟨go86, (x12_2 : Int).toNat, none⟩ (.int .i64 (wrap64 (x10_1 + ((rd_T31 t160 x12_2).f1))))).setCell ⟨go88, (x12_2 : Int).toNat, none⟩ (.int .i64 (wrap64 (wrap64 (x10_1 + ((rd_T31 t160 x12_2).f2))))))) := ⟨by repeat ((with_reducible first | exact HB.out | refine below_set ?_ GB84.out | refine below_set ?_ GB86.out | refine below_set ?_ GB88.out))⟩
                         (try clear HO_0)
                         (try clear HO_6)
                         (try clear HO_7)
                         (try clear HO_8)
                         (try clear HB)
                         generalize (((w91.setCell ⟨go84, (x12_2 : Int).toNat, none⟩ (.int .i64 ((rd_T31 t160 x12_2).f0))).setCell ⟨go86, (x12_2 : Int).toNat, none⟩ (.int .i64 (wrap64 (x10_1 + ((rd_T31 t160 x12_2).f1))))).setCell ⟨go88, (x12_2 : Int).toNat, none⟩ (.int .i64 (wrap64 (wrap64 (x10_1 + ((rd_T31 t160 x12_2).f2)))))) = w95 at n0_ n1_ n2_ n3_ n4_ ⊢
                         have HO_0 := n0_
                         have HO_6 := n1_
                         have HO_7 := n2_
                         have HO_8 := n3_
                         have HB := n4_
                         clear n0_ n1_ n2_ n3_ n4_
                         replace HO_0 := Aside0.mk (Kd.R_drew HO_0.out)
                         replace HO_6 := Aside0.mk (Kd.R_drew HO_6.out)
                         replace HO_7 := Aside0.mk (Kd.R_drew HO_7.out)
                         replace HO_8 := Aside0.mk (Kd.R_drew HO_8.out)
                         replace HB := Aside0.mk (below_drew1 HB.out)
                         have p195 : 0 ≤ (x12_2 : Int) := of_decide_eq_true (by (with_reducible assumption))
                         have q195 : x12_2 < (y192.length : Int) := (by have h_ : (x12_2 : Int) < ((x7_2.length : Int) : Int) := of_decide_eq_true (by (with_reducible assumption)); (have e_ := (Kd.R_reads' HO_7.out).1; omega))
                         have ql195 : ((x12_2 : Int) < ((x7_2.length : Int) : Int)) = True := eq_true (of_decide_eq_true (by (with_reducible assumption)))
                         obtain ⟨ad195, e195, hx195_0⟩ := Kd.at_int (Kd.R_reads' HO_7.out).2.2 x12_2 p195 q195
                         obtain rfl : (⟨go84, 0, none⟩ : Addr) = ad195 := (by injection e195)
                         ((simp only [add_at] at hx195_0))
                         (try simp only [Nat.zero_add] at hx195_0)
                         replace p195 := eq_true p195
                         replace q195 := eq_true q195
                         refine start_ (n := 20) (S := fun w' => w'.cell? ⟨go84, (x12_2).toNat, none⟩ = some (.int .i64 (rd y192 x12_2))) (ds := []) (bs 20 0) (by kernel_rfl) rfl rfl (hx195_0) (fun hHeld => ?_); refine with_tabW hortatorlaw9_DemandRun.tab24 hortatorlaw9_DemandRun.bits24 (fun HT_ HW_ => ?_)
                         generalize w95.drew = w96 at HO_0 HO_6 HO_7 HO_8 HB HQ92 HQ93 HQ94 hx195_0 hHeld ⊢
                         refine pureA_ (i := 0) (N := some 108) (bs 20 1) HT_ ?_
                         refine pureA_ (i := 1) (N := some 109) (bs 20 3) HT_ ?_
                         refine pureA_ (i := 2) (N := some 110) (bs 20 7) HT_ ?_
                         refine take_ (i := 3) (N := some 111) (v := ?_) (a' := ?_) (bs 20 15) rfl rfl (take_ofW HT_.out HW_.out (by kernel_rfl)) (fun _ _ _ h => h) (Or.inl ⟨by rfl, ?_⟩) hHeld ?_ ?_
                         rotate_left
                         ·intro w' s0
                          go_simp
                          with_reducible rfl
                         rotate_left
                         ·simp only [Act.put, List.setIfInBounds_toArray, List.set_cons_zero, List.set_cons_succ, i64_w, i32_w]
                          rfl
                         refine pureA_ (i := 4) (N := some 112) (bs 20 31) HT_ ?_
                         refine pureA_ (i := 5) (N := some 113) (bs 20 63) HT_ ?_
                         refine pureA_ (i := 6) (N := some 114) (bs 20 127) HT_ ?_
                         refine pureA_ (i := 7) (N := some 115) (bs 20 255) HT_ ?_
                         refine pureA_ (i := 8) (N := some 116) (bs 20 511) HT_ ?_
                         refine pureB_ (i := 9) (N := some 117) (bs 20 1023) HT_ ?_
                         refine pureB_ (i := 10) (N := some 118) (bs 20 2047) HT_ ?_
                         refine pureB_ (i := 11) (N := some 119) (bs 20 4095) HT_ ?_
                         refine pureB_ (i := 12) (N := some 120) (bs 20 8191) HT_ ?_
                         refine pureB_ (i := 13) (N := some 121) (bs 20 16383) HT_ ?_
                         refine pureB_ (i := 14) (N := some 122) (bs 20 32767) HT_ ?_
                         refine pureB_ (i := 15) (N := some 123) (bs 20 65535) HT_ ?_
                         refine pureB_ (i := 16) (N := some 124) (bs 20 131071) HT_ ?_
                         refine pureB_ (i := 17) (N := some 125) (bs 20 262143) HT_ ?_
                         refine pureA_ (i := 18) (N := some 126) (bs 20 524287) HT_ ?_
                         refine pureA_ (i := 19) (N := some 127) (bs 20 1048575) HT_ ?_
                         refine done_ (done_of HT_.out (by kernel_rfl)) ?_
                         try go_wp2
                         go_roundg kj32
                         case measure => have := HK1.out; have := HK2.out; have := HJ23.out; have := HJ32.out; omega
                         case rel => exact ⟨(y194), (y192), (y193), (wrap64 (x9_2 + 1)), (x12_2), (wrap64 (x12_2 + 1)), (by (rfl)), (by (rfl)), (by (rfl)), H', ⟨by have := HK1.out; have := HK2.out; have := HJ23.out; have := HJ32.out; omega⟩, ⟨HO_0.out⟩, ⟨HO_6.out⟩, ⟨HO_7.out⟩, ⟨HO_8.out⟩, ⟨HB.out⟩⟩
                        ·rw [if_neg c90] at H
                         have c90b0 : decide (x11_2 < 0) = false := decide_eq_false c90
                         clear c90
                         by_cases c97 : 0 ≤ x11_2
                         ·rw [if_pos c97] at H
                          have c97b0 : decide (0 ≤ x11_2) = true := decide_eq_true c97
                          clear c97
                          by_cases c98 : x11_2 < (x8_2.length : Int)
                          ·rw [if_pos c98] at H
                           have c98b0 : decide (x11_2 < (x8_2.length : Int)) = true := decide_eq_true c98
                           clear c98
                           by_cases c99 : (rd y193 x12_2) < (rd y193 x11_2)
                           ·as_aux_lemma =>
                            rw [if_pos c99] at H
                            have c99b0 : decide ((rd y193 x12_2) < (rd y193 x11_2)) = true := decide_eq_true c99
                            clear c99
                            have H' := Aside0.mk H
                            clear H
                            try go_wp2
                            replace HO_0 := Aside0.mk (Kd.R_drew HO_0.out)
                            replace HO_6 := Aside0.mk (Kd.R_drew HO_6.out)
                            replace HO_7 := Aside0.mk (Kd.R_drew HO_7.out)
                            replace HO_8 := Aside0.mk (Kd.R_drew HO_8.out)
                            replace HB := Aside0.mk (below_drew1 HB.out)
                            have p189 : 0 ≤ (x12_2 : Int) := of_decide_eq_true (by (with_reducible assumption))
                            have q189 : x12_2 < (t160.length : Int) := of_decide_eq_true (by (with_reducible assumption))
                            obtain ⟨ad189, e189, hx189_0, hx189_1, hx189_2⟩ := at_T31 (Kd.R_reads' HO_0.out).2.2 x12_2 p189 q189
                            cases e189
                            replace p189 := eq_true p189
                            replace q189 := eq_true q189
                            have p190 : 0 ≤ (x12_2 : Int) := of_decide_eq_true (by (with_reducible assumption))
                            have q190 : x12_2 < (t160.length : Int) := of_decide_eq_true (by (with_reducible assumption))
                            obtain ⟨ad190, e190, hx190_0, hx190_1, hx190_2⟩ := at_T31 (Kd.R_reads' HO_0.out).2.2 x12_2 p190 q190
                            obtain rfl : ad189 = ad190 := (by injection e190)
                            replace p190 := eq_true p190
                            replace q190 := eq_true q190
                            have p191 : 0 ≤ (x12_2 : Int) := of_decide_eq_true (by (with_reducible assumption))
                            have q191 : x12_2 < (t160.length : Int) := of_decide_eq_true (by (with_reducible assumption))
                            obtain ⟨ad191, e191, hx191_0, hx191_1, hx191_2⟩ := at_T31 (Kd.R_reads' HO_0.out).2.2 x12_2 p191 q191
                            obtain rfl : ad189 = ad191 := (by injection e191)
                            replace p191 := eq_true p191
                            replace q191 := eq_true q191
                            have p84 : 0 ≤ (x12_2 : Int) := of_decide_eq_true (by (with_reducible assumption))
                            have q84 : (x12_2 : Int) < ((x7_2.length : Int) : Int) := of_decide_eq_true (by (with_reducible assumption))
                            obtain ⟨go84, co84, eo84, gb84, gl84, cl84, HG84⟩ := Kd.R_form HO_7.out (by omega)
                            ((cases eo84))
                            have GB84 := Aside0.mk gb84
                            have GG84 := Aside0.mk HG84
                            clear gb84 gl84 HG84
                            obtain ⟨hx84_0, hf84_0⟩ := Kd.R_celln 0 HO_7.out (x12_2 : Int) p84 q84
                            replace p84 := eq_true p84
                            replace q84 := eq_true q84
                            have HP101 := Kd.R_putn HO_7.out (x12_2 : Int) ((rd_T31 t160 x12_2).f0)
                            rw [← Ny192.out] at HP101
                            have HQ101 := Aside0.mk HP101
                            clear HP101
                            have p86 : 0 ≤ (x12_2 : Int) := of_decide_eq_true (by (with_reducible assumption))
                            have q86 : (x12_2 : Int) < ((x8_2.length : Int) : Int) := of_decide_eq_true (by (with_reducible assumption))
                            obtain ⟨go86, co86, eo86, gb86, gl86, cl86, HG86⟩ := Kd.R_form HO_8.out (by omega)
                            ((cases eo86))
                            have GB86 := Aside0.mk gb86
                            have GG86 := Aside0.mk HG86
                            clear gb86 gl86 HG86
                            obtain ⟨hx86_0, hf86_0⟩ := Kd.R_celln 0 (Kd.R_far (p := ⟨go84, (x12_2 : Int).toNat, none⟩) (Kd.R_mono HO_8.out (fun k_ hk => (⟨hk, fun e_ => hk.2 (by rw [e_]; rfl)⟩ : _ ∧ k_ ≠ go84))) (fun _ hk => hk.2) (.int .i64 ((rd_T31 t160 x12_2).f0))) (x12_2 : Int) p86 q86
                            replace p86 := eq_true p86
                            replace q86 := eq_true q86
                            have HP102 := Kd.R_putn (Kd.R_far (p := ⟨go84, (x12_2 : Int).toNat, none⟩) (Kd.R_mono HO_8.out (fun k_ hk => (⟨hk, fun e_ => hk.2 (by rw [e_]; rfl)⟩ : _ ∧ k_ ≠ go84))) (fun _ hk => hk.2) (.int .i64 ((rd_T31 t160 x12_2).f0))) (x12_2 : Int) (wrap64 (x10_1 + ((rd_T31 t160 x12_2).f1)))
                            rw [← Ny193.out] at HP102
                            have HQ102 := Aside0.mk HP102
                            clear HP102
                            have p88 : 0 ≤ (x12_2 : Int) := of_decide_eq_true (by (with_reducible assumption))
                            have q88 : (x12_2 : Int) < ((x6_2.length : Int) : Int) := of_decide_eq_true (by (with_reducible assumption))
                            obtain ⟨go88, co88, eo88, gb88, gl88, cl88, HG88⟩ := Kd.R_form HO_6.out (by omega)
                            ((cases eo88))
                            have GB88 := Aside0.mk gb88
                            have GG88 := Aside0.mk HG88
                            clear gb88 gl88 HG88
                            obtain ⟨hx88_0, hf88_0⟩ := Kd.R_celln 0 (Kd.R_far (p := ⟨go86, (x12_2 : Int).toNat, none⟩) (Kd.R_far (p := ⟨go84, (x12_2 : Int).toNat, none⟩) (Kd.R_mono (Kd.R_mono HO_6.out (fun k_ hk => (⟨hk, fun e_ => hk.1 (by rw [e_]; rfl)⟩ : _ ∧ k_ ≠ go84))) (fun k_ hk => (⟨hk, fun e_ => hk.1.2 (by rw [e_]; rfl)⟩ : _ ∧ k_ ≠ go86))) (fun _ hk => hk.1.2) (.int .i64 ((rd_T31 t160 x12_2).f0))) (fun _ hk => hk.2) (.int .i64 (wrap64 (x10_1 + ((rd_T31 t160 x12_2).f1))))) (x12_2 : Int) p88 q88
                            replace p88 := eq_true p88
                            replace q88 := eq_true q88
                            have HP103 := Kd.R_putn (Kd.R_far (p := ⟨go86, (x12_2 : Int).toNat, none⟩) (Kd.R_far (p := ⟨go84, (x12_2 : Int).toNat, none⟩) (Kd.R_mono (Kd.R_mono HO_6.out (fun k_ hk => (⟨hk, fun e_ => hk.1 (by rw [e_]; rfl)⟩ : _ ∧ k_ ≠ go84))) (fun k_ hk => (⟨hk, fun e_ => hk.1.2 (by rw [e_]; rfl)⟩ : _ ∧ k_ ≠ go86))) (fun _ hk => hk.1.2) (.int .i64 ((rd_T31 t160 x12_2).f0))) (fun _ hk => hk.2) (.int .i64 (wrap64 (x10_1 + ((rd_T31 t160 x12_2).f1))))) (x12_2 : Int) (wrap64 (wrap64 (x10_1 + ((rd_T31 t160 x12_2).f2))))
                            rw [← Ny194.out] at HP103
                            have HQ103 := Aside0.mk HP103
                            clear HP103
                            refine start_ (n := 33) (S := fun w' => w'.cell? (ad189.add ((x12_2).toNat * 3)) = some (.int .i64 ((rd_T31 t160 x12_2).f0)) ∧ w'.cell? ⟨(ad189.add ((x12_2).toNat * 3)).block, (ad189.add ((x12_2).toNat * 3)).off + 1, none⟩ = some (.int .i64 ((rd_T31 t160 x12_2).f1)) ∧ w'.cell? ⟨(ad189.add ((x12_2).toNat * 3)).block, (ad189.add ((x12_2).toNat * 3)).off + 2, none⟩ = some (.int .i64 ((rd_T31 t160 x12_2).f2)) ∧ w'.cell? (ad189.add ((x12_2).toNat * 3)) = some (.int .i64 ((rd_T31 t160 x12_2).f0)) ∧ w'.cell? ⟨(ad189.add ((x12_2).toNat * 3)).block, (ad189.add ((x12_2).toNat * 3)).off + 1, none⟩ = some (.int .i64 ((rd_T31 t160 x12_2).f1)) ∧ w'.cell? ⟨(ad189.add ((x12_2).toNat * 3)).block, (ad189.add ((x12_2).toNat * 3)).off + 2, none⟩ = some (.int .i64 ((rd_T31 t160 x12_2).f2)) ∧ w'.cell? (ad189.add ((x12_2).toNat * 3)) = some (.int .i64 ((rd_T31 t160 x12_2).f0)) ∧ w'.cell? ⟨(ad189.add ((x12_2).toNat * 3)).block, (ad189.add ((x12_2).toNat * 3)).off + 1, none⟩ = some (.int .i64 ((rd_T31 t160 x12_2).f1)) ∧ w'.cell? ⟨(ad189.add ((x12_2).toNat * 3)).block, (ad189.add ((x12_2).toNat * 3)).off + 2, none⟩ = some (.int .i64 ((rd_T31 t160 x12_2).f2))) (ds := [28, 30, 32]) (bs 33 0) (by kernel_rfl) rfl rfl ⟨hx189_0, hx189_1, hx189_2, hx190_0, hx190_1, hx190_2, hx191_0, hx191_1, hx191_2⟩ (fun hHeld => ?_); refine with_tabW hortatorlaw9_DemandRun.tab23 hortatorlaw9_DemandRun.bits23 (fun HT_ HW_ => ?_)
                            generalize wc.drew = w100 at HO_0 HO_6 HO_7 HO_8 HB GG84 GG86 GG88 HQ101 HQ102 HQ103 hf84_0 hf86_0 hf88_0 hx189_0 hx189_1 hx189_2 hx190_0 hx190_1 hx190_2 hx191_0 hx191_1 hx191_2 hx84_0 hx86_0 hx88_0 hHeld ⊢
                            refine pureA_ (i := 0) (N := some 78) (bs 33 1) HT_ ?_
                            refine pureA_ (i := 1) (N := some 79) (bs 33 3) HT_ ?_
                            refine pureA_ (i := 2) (N := some 80) (bs 33 7) HT_ ?_
                            refine pureA_ (i := 3) (N := some 81) (bs 33 15) HT_ ?_
                            refine pureA_ (i := 4) (N := some 82) (bs 33 31) HT_ ?_
                            refine pureA_ (i := 5) (N := some 83) (bs 33 63) HT_ ?_
                            refine pureA_ (i := 6) (N := some 84) (bs 33 127) HT_ ?_
                            refine pureA_ (i := 7) (N := some 85) (bs 33 255) HT_ ?_
                            refine pureA_ (i := 8) (N := some 86) (bs 33 511) HT_ ?_
                            refine pureA_ (i := 9) (N := some 87) (bs 33 1023) HT_ ?_
                            refine pureA_ (i := 11) (N := some 89) (bs 33 3071) HT_ ?_
                            refine pureA_ (i := 12) (N := some 90) (bs 33 7167) HT_ ?_
                            refine pureA_ (i := 13) (N := some 91) (bs 33 15359) HT_ ?_
                            refine pureA_ (i := 14) (N := some 92) (bs 33 31743) HT_ ?_
                            refine pureA_ (i := 15) (N := some 93) (bs 33 64511) HT_ ?_
                            refine pureA_ (i := 18) (N := some 96) (bs 33 326655) HT_ ?_
                            refine pureA_ (i := 19) (N := some 97) (bs 33 850943) HT_ ?_
                            refine pureA_ (i := 20) (N := some 98) (bs 33 1899519) HT_ ?_
                            refine pureA_ (i := 21) (N := some 99) (bs 33 3996671) HT_ ?_
                            refine pureA_ (i := 22) (N := some 100) (bs 33 8190975) HT_ ?_
                            refine pureA_ (i := 25) (N := some 103) (bs 33 41745407) HT_ ?_
                            refine takeA_ (i := 10) (N := some 88) (bs 33 41746431) HT_ HW_ hHeld ?_
                            refine takeA_ (i := 16) (N := some 94) (bs 33 41811967) HT_ HW_ hHeld ?_
                            refine pureA_ (i := 17) (N := some 95) (bs 33 41943039) HT_ ?_
                            refine takeA_ (i := 23) (N := some 101) (bs 33 50331647) HT_ HW_ hHeld ?_
                            refine pureA_ (i := 24) (N := some 102) (bs 33 67108863) HT_ ?_
                            refine pureA_ (i := 26) (N := some 104) (bs 33 134217727) HT_ ?_
                            refine pureA_ (i := 27) (N := some 105) (bs 33 268435455) HT_ ?_
                            refine last_ (i := 28) (N := none) (bs 33 536870911) rfl rfl (one_of HT_.out (by kernel_rfl)) (by decide) (fun K hK => ?_)
                            refine skip_ (w1 := ?_) (by rfl) rfl ?_ ?_
                            rotate_left
                            ·go_simp
                             rfl
                            refine hK.out _ _ ?_
                            clear hK K
                            refine pureA_ (i := 29) (N := some 106) (bs 33 1073741823) HT_ ?_
                            refine last_ (i := 30) (N := none) (bs 33 2147483647) rfl rfl (one_of HT_.out (by kernel_rfl)) (by decide) (fun K hK => ?_)
                            refine skip_ (w1 := ?_) (by rfl) rfl ?_ ?_
                            rotate_left
                            ·go_simp
                             rfl
                            refine hK.out _ _ ?_
                            clear hK K
                            refine pureA_ (i := 31) (N := some 107) (bs 33 4294967295) HT_ ?_
                            refine last_ (i := 32) (N := none) (bs 33 8589934591) rfl rfl (one_of HT_.out (by kernel_rfl)) (by decide) (fun K hK => ?_)
                            refine skip_ (w1 := ?_) (by rfl) rfl ?_ ?_
                            rotate_left
                            ·go_simp
                             rfl
                            refine hK.out _ _ ?_
                            clear hK K
                            refine done_ (done_of HT_.out (by kernel_rfl)) ?_
                            try go_wp2
                            have n0_ : Aside0 (Kd.R k31 31 (((w100.setCell ⟨go84, (x12_2 : Int).toNat, none⟩ (.int .i64 ((rd_T31 t160 x12_2).f0))).setCell ⟨go86, (x12_2 : Int).toNat, none⟩ (.int .i64 (wrap64 (x10_1 + ((rd_T31 t160 x12_2).f1))))).setCell ⟨go88, (x12_2 : Int).toNat, none⟩ (.int .i64 (wrap64 (wrap64 (x10_1 + ((rd_T31 t160 x12_2).f2)))))) w.heap.size (fun _ => True) (.slice (some ad189) t160.length co12) t160) := ⟨by exact Kd.R_mono (Kd.R_far (p := ⟨go88, (x12_2 : Int).toNat, none⟩) (Kd.R_far (p := ⟨go86, (x12_2 : Int).toNat, none⟩) (Kd.R_far (p := ⟨go84, (x12_2 : Int).toNat, none⟩) (Kd.R_types (Kd.R_types (Kd.R_types HO_0.out GG84.out (by decide)) GG86.out (by decide)) GG88.out (by decide)) (fun _ hk => hk.1.1.2) (.int .i64 ((rd_T31 t160 x12_2).f0))) (fun _ hk => hk.1.2) (.int .i64 (wrap64 (x10_1 + ((rd_T31 t160 x12_2).f1))))) (fun _ hk => hk.2) (.int .i64 (wrap64 (wrap64 (x10_1 + ((rd_T31 t160 x12_2).f2)))))) (fun _ hk => trivial)⟩
                            have n1_ : Aside0 (Kd.R (Kd.int .i64) 2 (((w100.setCell ⟨go84, (x12_2 : Int).toNat, none⟩ (.int .i64 ((rd_T31 t160 x12_2).f0))).setCell ⟨go86, (x12_2 : Int).toNat, none⟩ (.int .i64 (wrap64 (x10_1 + ((rd_T31 t160 x12_2).f1))))).setCell ⟨go88, (x12_2 : Int).toNat, none⟩ (.int .i64 (wrap64 (wrap64 (x10_1 + ((rd_T31 t160 x12_2).f2)))))) w.heap.size (fun k_ => some k_ ≠ (.slice (some ⟨go84, 0, none⟩) x7_2.length co84 : Value).ownBlock ∧ some k_ ≠ (.slice (some ⟨go86, 0, none⟩) x8_2.length co86 : Value).ownBlock) (.slice (some ⟨go88, 0, none⟩) x6_2.length co88) y194) := ⟨by exact Kd.R_mono HQ103.out (fun _ hk => ⟨hk.1.1.1, hk.1.1.2⟩)⟩
                            have n2_ : Aside0 (Kd.R (Kd.int .i64) 2 (((w100.setCell ⟨go84, (x12_2 : Int).toNat, none⟩ (.int .i64 ((rd_T31 t160 x12_2).f0))).setCell ⟨go86, (x12_2 : Int).toNat, none⟩ (.int .i64 (wrap64 (x10_1 + ((rd_T31 t160 x12_2).f1))))).setCell ⟨go88, (x12_2 : Int).toNat, none⟩ (.int .i64 (wrap64 (wrap64 (x10_1 + ((rd_T31 t160 x12_2).f2)))))) w.heap.size (fun k_ => some k_ ≠ (.slice (some ⟨go88, 0, none⟩) x6_2.length co88 : Value).ownBlock ∧ some k_ ≠ (.slice (some ⟨go86, 0, none⟩) x8_2.length co86 : Value).ownBlock) (.slice (some ⟨go84, 0, none⟩) x7_2.length co84) y192) := ⟨by exact Kd.R_mono (Kd.R_far (p := ⟨go88, (x12_2 : Int).toNat, none⟩) (Kd.R_far (p := ⟨go86, (x12_2 : Int).toNat, none⟩) (Kd.R_mono (Kd.R_mono HQ101.out (fun k_ hk => (⟨hk, fun e_ => hk.2 (by rw [e_]; rfl)⟩ : _ ∧ k_ ≠ go86))) (fun k_ hk => (⟨hk, fun e_ => hk.1.1 (by rw [e_]; rfl)⟩ : _ ∧ k_ ≠ go88))) (fun _ hk => hk.1.2) (.int .i64 (wrap64 (x10_1 + ((rd_T31 t160 x12_2).f1))))) (fun _ hk => hk.2) (.int .i64 (wrap64 (wrap64 (x10_1 + ((rd_T31 t160 x12_2).f2)))))) (fun _ hk => ⟨hk.1.1.1, hk.1.1.2⟩)⟩
                            have n3_ : Aside0 (Kd.R (Kd.int .i64) 2 (((w100.setCell ⟨go84, (x12_2 : Int).toNat, none⟩ (.int .i64 ((rd_T31 t160 x12_2).f0))).setCell ⟨go86, (x12_2 : Int).toNat, none⟩ (.int .i64 (wrap64 (x10_1 + ((rd_T31 t160 x12_2).f1))))).setCell ⟨go88, (x12_2 : Int).toNat, none⟩ (.int .i64 (wrap64 (wrap64 (x10_1 + ((rd_T31 t160 x12_2).f2)))))) w.heap.size (fun k_ => some k_ ≠ (.slice (some ⟨go88, 0, none⟩) x6_2.length co88 : Value).ownBlock ∧ some k_ ≠ (.slice (some ⟨go84, 0, none⟩) x7_2.length co84 : Value).ownBlock) (.slice (some ⟨go86, 0, none⟩) x8_2.length co86) y193) := ⟨by exact Kd.R_mono (Kd.R_far (p := ⟨go88, (x12_2 : Int).toNat, none⟩) (Kd.R_mono HQ102.out (fun k_ hk => (⟨hk, fun e_ => hk.1.1 (by rw [e_]; rfl)⟩ : _ ∧ k_ ≠ go88))) (fun _ hk => hk.2) (.int .i64 (wrap64 (wrap64 (x10_1 + ((rd_T31 t160 x12_2).f2)))))) (fun _ hk => ⟨hk.1.1.1, hk.1.1.2⟩)⟩
                            have n4_ : Aside0 (Below w.heap.size w (((w100.setCell ⟨go84, (x12_2 : Int).toNat, none⟩ (.int .i64 ((rd_T31 t160 x12_2).f0))).setCell ⟨go86, (x12_2 : Int).toNat, none⟩ (.int .i64 (wrap64 (x10_1 + ((rd_T31 t160 x12_2).f1))))).setCell ⟨go88, (x12_2 : Int).toNat, none⟩ (.int .i64 (wrap64 (wrap64 (x10_1 + ((rd_T31 t160 x12_2).f2))))))) := ⟨by repeat ((with_reducible first | exact HB.out | refine below_set ?_ GB84.out | refine below_set ?_ GB86.out | refine below_set ?_ GB88.out))⟩
                            (try clear HO_0)
                            (try clear HO_6)
                            (try clear HO_7)
                            (try clear HO_8)
                            (try clear HB)
                            generalize (((w100.setCell ⟨go84, (x12_2 : Int).toNat, none⟩ (.int .i64 ((rd_T31 t160 x12_2).f0))).setCell ⟨go86, (x12_2 : Int).toNat, none⟩ (.int .i64 (wrap64 (x10_1 + ((rd_T31 t160 x12_2).f1))))).setCell ⟨go88, (x12_2 : Int).toNat, none⟩ (.int .i64 (wrap64 (wrap64 (x10_1 + ((rd_T31 t160 x12_2).f2)))))) = w104 at n0_ n1_ n2_ n3_ n4_ ⊢
                            have HO_0 := n0_
                            have HO_6 := n1_
                            have HO_7 := n2_
                            have HO_8 := n3_
                            have HB := n4_
                            clear n0_ n1_ n2_ n3_ n4_
                            replace HO_0 := Aside0.mk (Kd.R_drew HO_0.out)
                            replace HO_6 := Aside0.mk (Kd.R_drew HO_6.out)
                            replace HO_7 := Aside0.mk (Kd.R_drew HO_7.out)
                            replace HO_8 := Aside0.mk (Kd.R_drew HO_8.out)
                            replace HB := Aside0.mk (below_drew1 HB.out)
                            have p195 : 0 ≤ (x12_2 : Int) := of_decide_eq_true (by (with_reducible assumption))
                            have q195 : x12_2 < (y192.length : Int) := (by have h_ : (x12_2 : Int) < ((x7_2.length : Int) : Int) := of_decide_eq_true (by (with_reducible assumption)); (have e_ := (Kd.R_reads' HO_7.out).1; omega))
                            have ql195 : ((x12_2 : Int) < ((x7_2.length : Int) : Int)) = True := eq_true (of_decide_eq_true (by (with_reducible assumption)))
                            obtain ⟨ad195, e195, hx195_0⟩ := Kd.at_int (Kd.R_reads' HO_7.out).2.2 x12_2 p195 q195
                            obtain rfl : (⟨go84, 0, none⟩ : Addr) = ad195 := (by injection e195)
                            ((simp only [add_at] at hx195_0))
                            (try simp only [Nat.zero_add] at hx195_0)
                            replace p195 := eq_true p195
                            replace q195 := eq_true q195
                            have p196 : 0 ≤ (x12_2 : Int) := of_decide_eq_true (by (with_reducible assumption))
                            have q196 : x12_2 < (y193.length : Int) := (by have h_ : (x12_2 : Int) < ((x8_2.length : Int) : Int) := of_decide_eq_true (by (with_reducible assumption)); (have e_ := (Kd.R_reads' HO_8.out).1; omega))
                            have ql196 : ((x12_2 : Int) < ((x8_2.length : Int) : Int)) = True := eq_true (of_decide_eq_true (by (with_reducible assumption)))
                            obtain ⟨ad196, e196, hx196_0⟩ := Kd.at_int (Kd.R_reads' HO_8.out).2.2 x12_2 p196 q196
                            obtain rfl : (⟨go86, 0, none⟩ : Addr) = ad196 := (by injection e196)
                            ((simp only [add_at] at hx196_0))
                            (try simp only [Nat.zero_add] at hx196_0)
                            replace p196 := eq_true p196
                            replace q196 := eq_true q196
                            have p197 : 0 ≤ (x11_2 : Int) := of_decide_eq_true (by (with_reducible assumption))
                            have q197 : x11_2 < (y193.length : Int) := (by have h_ : (x11_2 : Int) < ((x8_2.length : Int) : Int) := of_decide_eq_true (by (with_reducible assumption)); (have e_ := (Kd.R_reads' HO_8.out).1; omega))
                            have ql197 : ((x11_2 : Int) < ((x8_2.length : Int) : Int)) = True := eq_true (of_decide_eq_true (by (with_reducible assumption)))
                            obtain ⟨ad197, e197, hx197_0⟩ := Kd.at_int (Kd.R_reads' HO_8.out).2.2 x11_2 p197 q197
                            obtain rfl : (⟨go86, 0, none⟩ : Addr) = ad197 := (by injection e197)
                            ((simp only [add_at] at hx197_0))
                            (try simp only [Nat.zero_add] at hx197_0)
                            replace p197 := eq_true p197
                            replace q197 := eq_true q197
                            refine start_ (n := 20) (S := fun w' => w'.cell? ⟨go84, (x12_2).toNat, none⟩ = some (.int .i64 (rd y192 x12_2)) ∧ w'.cell? ⟨go86, (x12_2).toNat, none⟩ = some (.int .i64 (rd y193 x12_2)) ∧ w'.cell? ⟨go86, (x11_2).toNat, none⟩ = some (.int .i64 (rd y193 x11_2))) (ds := []) (bs 20 0) (by kernel_rfl) rfl rfl ⟨hx195_0, hx196_0, hx197_0⟩ (fun hHeld => ?_); refine with_tabW hortatorlaw9_DemandRun.tab24 hortatorlaw9_DemandRun.bits24 (fun HT_ HW_ => ?_)
                            generalize w104.drew = w105 at HO_0 HO_6 HO_7 HO_8 HB HQ101 HQ102 HQ103 hx195_0 hx196_0 hx197_0 hHeld ⊢
                            refine pureA_ (i := 0) (N := some 108) (bs 20 1) HT_ ?_
                            refine pureA_ (i := 1) (N := some 109) (bs 20 3) HT_ ?_
                            refine pureA_ (i := 2) (N := some 110) (bs 20 7) HT_ ?_
                            refine takeA_ (i := 3) (N := some 111) (bs 20 15) HT_ HW_ hHeld ?_
                            refine pureA_ (i := 4) (N := some 112) (bs 20 31) HT_ ?_
                            refine pureA_ (i := 5) (N := some 113) (bs 20 63) HT_ ?_
                            refine pureA_ (i := 6) (N := some 114) (bs 20 127) HT_ ?_
                            refine pureA_ (i := 7) (N := some 115) (bs 20 255) HT_ ?_
                            refine pureA_ (i := 8) (N := some 116) (bs 20 511) HT_ ?_
                            refine pureA_ (i := 9) (N := some 117) (bs 20 1023) HT_ ?_
                            refine pureA_ (i := 10) (N := some 118) (bs 20 2047) HT_ ?_
                            refine pureA_ (i := 11) (N := some 119) (bs 20 4095) HT_ ?_
                            refine pureA_ (i := 13) (N := some 121) (bs 20 12287) HT_ ?_
                            refine pureA_ (i := 14) (N := some 122) (bs 20 28671) HT_ ?_
                            refine pureA_ (i := 15) (N := some 123) (bs 20 61439) HT_ ?_
                            refine takeA_ (i := 12) (N := some 120) (bs 20 65535) HT_ HW_ hHeld ?_
                            refine takeA_ (i := 16) (N := some 124) (bs 20 131071) HT_ HW_ hHeld ?_
                            refine pureA_ (i := 17) (N := some 125) (bs 20 262143) HT_ ?_
                            refine pureA_ (i := 18) (N := some 126) (bs 20 524287) HT_ ?_
                            refine pureA_ (i := 19) (N := some 127) (bs 20 1048575) HT_ ?_
                            refine done_ (done_of HT_.out (by kernel_rfl)) ?_
                            try go_wp2
                            go_roundg kj32
                            case measure => have := HK1.out; have := HK2.out; have := HJ23.out; have := HJ32.out; omega
                            case rel => exact ⟨(y194), (y192), (y193), (wrap64 (x9_2 + 1)), (x12_2), (wrap64 (x12_2 + 1)), (by (rfl)), (by (rfl)), (by (rfl)), H', ⟨by have := HK1.out; have := HK2.out; have := HJ23.out; have := HJ32.out; omega⟩, ⟨HO_0.out⟩, ⟨HO_6.out⟩, ⟨HO_7.out⟩, ⟨HO_8.out⟩, ⟨HB.out⟩⟩
                           ·as_aux_lemma =>
                            rw [if_neg c99] at H
                            have c99b0 : decide ((rd y193 x12_2) < (rd y193 x11_2)) = false := decide_eq_false c99
                            clear c99
                            have H' := Aside0.mk H
                            clear H
                            try go_wp2
                            replace HO_0 := Aside0.mk (Kd.R_drew HO_0.out)
                            replace HO_6 := Aside0.mk (Kd.R_drew HO_6.out)
                            replace HO_7 := Aside0.mk (Kd.R_drew HO_7.out)
                            replace HO_8 := Aside0.mk (Kd.R_drew HO_8.out)
                            replace HB := Aside0.mk (below_drew1 HB.out)
                            have p189 : 0 ≤ (x12_2 : Int) := of_decide_eq_true (by (with_reducible assumption))
                            have q189 : x12_2 < (t160.length : Int) := of_decide_eq_true (by (with_reducible assumption))
                            obtain ⟨ad189, e189, hx189_0, hx189_1, hx189_2⟩ := at_T31 (Kd.R_reads' HO_0.out).2.2 x12_2 p189 q189
                            cases e189
                            replace p189 := eq_true p189
                            replace q189 := eq_true q189
                            have p190 : 0 ≤ (x12_2 : Int) := of_decide_eq_true (by (with_reducible assumption))
                            have q190 : x12_2 < (t160.length : Int) := of_decide_eq_true (by (with_reducible assumption))
                            obtain ⟨ad190, e190, hx190_0, hx190_1, hx190_2⟩ := at_T31 (Kd.R_reads' HO_0.out).2.2 x12_2 p190 q190
                            obtain rfl : ad189 = ad190 := (by injection e190)
                            replace p190 := eq_true p190
                            replace q190 := eq_true q190
                            have p191 : 0 ≤ (x12_2 : Int) := of_decide_eq_true (by (with_reducible assumption))
                            have q191 : x12_2 < (t160.length : Int) := of_decide_eq_true (by (with_reducible assumption))
                            obtain ⟨ad191, e191, hx191_0, hx191_1, hx191_2⟩ := at_T31 (Kd.R_reads' HO_0.out).2.2 x12_2 p191 q191
                            obtain rfl : ad189 = ad191 := (by injection e191)
                            replace p191 := eq_true p191
                            replace q191 := eq_true q191
                            have p84 : 0 ≤ (x12_2 : Int) := of_decide_eq_true (by (with_reducible assumption))
                            have q84 : (x12_2 : Int) < ((x7_2.length : Int) : Int) := of_decide_eq_true (by (with_reducible assumption))
                            obtain ⟨go84, co84, eo84, gb84, gl84, cl84, HG84⟩ := Kd.R_form HO_7.out (by omega)
                            ((cases eo84))
                            have GB84 := Aside0.mk gb84
                            have GG84 := Aside0.mk HG84
                            clear gb84 gl84 HG84
                            obtain ⟨hx84_0, hf84_0⟩ := Kd.R_celln 0 HO_7.out (x12_2 : Int) p84 q84
                            replace p84 := eq_true p84
                            replace q84 := eq_true q84
                            have HP107 := Kd.R_putn HO_7.out (x12_2 : Int) ((rd_T31 t160 x12_2).f0)
                            rw [← Ny192.out] at HP107
                            have HQ107 := Aside0.mk HP107
                            clear HP107
                            have p86 : 0 ≤ (x12_2 : Int) := of_decide_eq_true (by (with_reducible assumption))
                            have q86 : (x12_2 : Int) < ((x8_2.length : Int) : Int) := of_decide_eq_true (by (with_reducible assumption))
                            obtain ⟨go86, co86, eo86, gb86, gl86, cl86, HG86⟩ := Kd.R_form HO_8.out (by omega)
                            ((cases eo86))
                            have GB86 := Aside0.mk gb86
                            have GG86 := Aside0.mk HG86
                            clear gb86 gl86 HG86
                            obtain ⟨hx86_0, hf86_0⟩ := Kd.R_celln 0 (Kd.R_far (p := ⟨go84, (x12_2 : Int).toNat, none⟩) (Kd.R_mono HO_8.out (fun k_ hk => (⟨hk, fun e_ => hk.2 (by rw [e_]; rfl)⟩ : _ ∧ k_ ≠ go84))) (fun _ hk => hk.2) (.int .i64 ((rd_T31 t160 x12_2).f0))) (x12_2 : Int) p86 q86
                            replace p86 := eq_true p86
                            replace q86 := eq_true q86
                            have HP108 := Kd.R_putn (Kd.R_far (p := ⟨go84, (x12_2 : Int).toNat, none⟩) (Kd.R_mono HO_8.out (fun k_ hk => (⟨hk, fun e_ => hk.2 (by rw [e_]; rfl)⟩ : _ ∧ k_ ≠ go84))) (fun _ hk => hk.2) (.int .i64 ((rd_T31 t160 x12_2).f0))) (x12_2 : Int) (wrap64 (x10_1 + ((rd_T31 t160 x12_2).f1)))
                            rw [← Ny193.out] at HP108
                            have HQ108 := Aside0.mk HP108
                            clear HP108
                            have p88 : 0 ≤ (x12_2 : Int) := of_decide_eq_true (by (with_reducible assumption))
                            have q88 : (x12_2 : Int) < ((x6_2.length : Int) : Int) := of_decide_eq_true (by (with_reducible assumption))
                            obtain ⟨go88, co88, eo88, gb88, gl88, cl88, HG88⟩ := Kd.R_form HO_6.out (by omega)
                            ((cases eo88))
                            have GB88 := Aside0.mk gb88
                            have GG88 := Aside0.mk HG88
                            clear gb88 gl88 HG88
                            obtain ⟨hx88_0, hf88_0⟩ := Kd.R_celln 0 (Kd.R_far (p := ⟨go86, (x12_2 : Int).toNat, none⟩) (Kd.R_far (p := ⟨go84, (x12_2 : Int).toNat, none⟩) (Kd.R_mono (Kd.R_mono HO_6.out (fun k_ hk => (⟨hk, fun e_ => hk.1 (by rw [e_]; rfl)⟩ : _ ∧ k_ ≠ go84))) (fun k_ hk => (⟨hk, fun e_ => hk.1.2 (by rw [e_]; rfl)⟩ : _ ∧ k_ ≠ go86))) (fun _ hk => hk.1.2) (.int .i64 ((rd_T31 t160 x12_2).f0))) (fun _ hk => hk.2) (.int .i64 (wrap64 (x10_1 + ((rd_T31 t160 x12_2).f1))))) (x12_2 : Int) p88 q88
                            replace p88 := eq_true p88
                            replace q88 := eq_true q88
                            have HP109 := Kd.R_putn (Kd.R_far (p := ⟨go86, (x12_2 : Int).toNat, none⟩) (Kd.R_far (p := ⟨go84, (x12_2 : Int).toNat, none⟩) (Kd.R_mono (Kd.R_mono HO_6.out (fun k_ hk => (⟨hk, fun e_ => hk.1 (by rw [e_]; rfl)⟩ : _ ∧ k_ ≠ go84))) (fun k_ hk => (⟨hk, fun e_ => hk.1.2 (by rw [e_]; rfl)⟩ : _ ∧ k_ ≠ go86))) (fun _ hk => hk.1.2) (.int .i64 ((rd_T31 t160 x12_2).f0))) (fun _ hk => hk.2) (.int .i64 (wrap64 (x10_1 + ((rd_T31 t160 x12_2).f1))))) (x12_2 : Int) (wrap64 (wrap64 (x10_1 + ((rd_T31 t160 x12_2).f2))))
                            rw [← Ny194.out] at HP109
                            have HQ109 := Aside0.mk HP109
                            clear HP109
                            refine start_ (n := 33) (S := fun w' => w'.cell? (ad189.add ((x12_2).toNat * 3)) = some (.int .i64 ((rd_T31 t160 x12_2).f0)) ∧ w'.cell? ⟨(ad189.add ((x12_2).toNat * 3)).block, (ad189.add ((x12_2).toNat * 3)).off + 1, none⟩ = some (.int .i64 ((rd_T31 t160 x12_2).f1)) ∧ w'.cell? ⟨(ad189.add ((x12_2).toNat * 3)).block, (ad189.add ((x12_2).toNat * 3)).off + 2, none⟩ = some (.int .i64 ((rd_T31 t160 x12_2).f2)) ∧ w'.cell? (ad189.add ((x12_2).toNat * 3)) = some (.int .i64 ((rd_T31 t160 x12_2).f0)) ∧ w'.cell? ⟨(ad189.add ((x12_2).toNat * 3)).block, (ad189.add ((x12_2).toNat * 3)).off + 1, none⟩ = some (.int .i64 ((rd_T31 t160 x12_2).f1)) ∧ w'.cell? ⟨(ad189.add ((x12_2).toNat * 3)).block, (ad189.add ((x12_2).toNat * 3)).off + 2, none⟩ = some (.int .i64 ((rd_T31 t160 x12_2).f2)) ∧ w'.cell? (ad189.add ((x12_2).toNat * 3)) = some (.int .i64 ((rd_T31 t160 x12_2).f0)) ∧ w'.cell? ⟨(ad189.add ((x12_2).toNat * 3)).block, (ad189.add ((x12_2).toNat * 3)).off + 1, none⟩ = some (.int .i64 ((rd_T31 t160 x12_2).f1)) ∧ w'.cell? ⟨(ad189.add ((x12_2).toNat * 3)).block, (ad189.add ((x12_2).toNat * 3)).off + 2, none⟩ = some (.int .i64 ((rd_T31 t160 x12_2).f2))) (ds := [28, 30, 32]) (bs 33 0) (by kernel_rfl) rfl rfl ⟨hx189_0, hx189_1, hx189_2, hx190_0, hx190_1, hx190_2, hx191_0, hx191_1, hx191_2⟩ (fun hHeld => ?_); refine with_tabW hortatorlaw9_DemandRun.tab23 hortatorlaw9_DemandRun.bits23 (fun HT_ HW_ => ?_)
                            generalize wc.drew = w106 at HO_0 HO_6 HO_7 HO_8 HB GG84 GG86 GG88 HQ107 HQ108 HQ109 hf84_0 hf86_0 hf88_0 hx189_0 hx189_1 hx189_2 hx190_0 hx190_1 hx190_2 hx191_0 hx191_1 hx191_2 hx84_0 hx86_0 hx88_0 hHeld ⊢
                            refine pureA_ (i := 0) (N := some 78) (bs 33 1) HT_ ?_
                            refine pureA_ (i := 1) (N := some 79) (bs 33 3) HT_ ?_
                            refine pureA_ (i := 2) (N := some 80) (bs 33 7) HT_ ?_
                            refine pureA_ (i := 3) (N := some 81) (bs 33 15) HT_ ?_
                            refine pureA_ (i := 4) (N := some 82) (bs 33 31) HT_ ?_
                            refine pureA_ (i := 5) (N := some 83) (bs 33 63) HT_ ?_
                            refine pureA_ (i := 6) (N := some 84) (bs 33 127) HT_ ?_
                            refine pureA_ (i := 7) (N := some 85) (bs 33 255) HT_ ?_
                            refine pureA_ (i := 8) (N := some 86) (bs 33 511) HT_ ?_
                            refine pureA_ (i := 9) (N := some 87) (bs 33 1023) HT_ ?_
                            refine pureA_ (i := 11) (N := some 89) (bs 33 3071) HT_ ?_
                            refine pureA_ (i := 12) (N := some 90) (bs 33 7167) HT_ ?_
                            refine pureA_ (i := 13) (N := some 91) (bs 33 15359) HT_ ?_
                            refine pureA_ (i := 14) (N := some 92) (bs 33 31743) HT_ ?_
                            refine pureA_ (i := 15) (N := some 93) (bs 33 64511) HT_ ?_
                            refine pureA_ (i := 18) (N := some 96) (bs 33 326655) HT_ ?_
                            refine pureA_ (i := 19) (N := some 97) (bs 33 850943) HT_ ?_
                            refine pureA_ (i := 20) (N := some 98) (bs 33 1899519) HT_ ?_
                            refine pureA_ (i := 21) (N := some 99) (bs 33 3996671) HT_ ?_
                            refine pureA_ (i := 22) (N := some 100) (bs 33 8190975) HT_ ?_
                            refine pureA_ (i := 25) (N := some 103) (bs 33 41745407) HT_ ?_
                            refine takeA_ (i := 10) (N := some 88) (bs 33 41746431) HT_ HW_ hHeld ?_
                            refine takeA_ (i := 16) (N := some 94) (bs 33 41811967) HT_ HW_ hHeld ?_
                            refine pureA_ (i := 17) (N := some 95) (bs 33 41943039) HT_ ?_
                            refine takeA_ (i := 23) (N := some 101) (bs 33 50331647) HT_ HW_ hHeld ?_
                            refine pureA_ (i := 24) (N := some 102) (bs 33 67108863) HT_ ?_
                            refine pureA_ (i := 26) (N := some 104) (bs 33 134217727) HT_ ?_
                            refine pureA_ (i := 27) (N := some 105) (bs 33 268435455) HT_ ?_
                            refine last_ (i := 28) (N := none) (bs 33 536870911) rfl rfl (one_of HT_.out (by kernel_rfl)) (by decide) (fun K hK => ?_)
                            refine skip_ (w1 := ?_) (by rfl) rfl ?_ ?_
                            rotate_left
                            ·go_simp
                             rfl
                            refine hK.out _ _ ?_
                            clear hK K
                            refine pureA_ (i := 29) (N := some 106) (bs 33 1073741823) HT_ ?_
                            refine last_ (i := 30) (N := none) (bs 33 2147483647) rfl rfl (one_of HT_.out (by kernel_rfl)) (by decide) (fun K hK => ?_)
                            refine skip_ (w1 := ?_) (by rfl) rfl ?_ ?_
                            rotate_left
                            ·go_simp
                             rfl
                            refine hK.out _ _ ?_
                            clear hK K
                            refine pureA_ (i := 31) (N := some 107) (bs 33 4294967295) HT_ ?_
                            refine last_ (i := 32) (N := none) (bs 33 8589934591) rfl rfl (one_of HT_.out (by kernel_rfl)) (by decide) (fun K hK => ?_)
                            refine skip_ (w1 := ?_) (by rfl) rfl ?_ ?_
                            rotate_left
                            ·go_simp
                             rfl
                            refine hK.out _ _ ?_
                            clear hK K
                            refine done_ (done_of HT_.out (by kernel_rfl)) ?_
                            try go_wp2
                            have n0_ : Aside0 (Kd.R k31 31 (((w106.setCell ⟨go84, (x12_2 : Int).toNat, none⟩ (.int .i64 ((rd_T31 t160 x12_2).f0))).setCell ⟨go86, (x12_2 : Int).toNat, none⟩ (.int .i64 (wrap64 (x10_1 + ((rd_T31 t160 x12_2).f1))))).setCell ⟨go88, (x12_2 : Int).toNat, none⟩ (.int .i64 (wrap64 (wrap64 (x10_1 + ((rd_T31 t160 x12_2).f2)))))) w.heap.size (fun _ => True) (.slice (some ad189) t160.length co12) t160) := ⟨by exact Kd.R_mono (Kd.R_far (p := ⟨go88, (x12_2 : Int).toNat, none⟩) (Kd.R_far (p := ⟨go86, (x12_2 : Int).toNat, none⟩) (Kd.R_far (p := ⟨go84, (x12_2 : Int).toNat, none⟩) (Kd.R_types (Kd.R_types (Kd.R_types HO_0.out GG84.out (by decide)) GG86.out (by decide)) GG88.out (by decide)) (fun _ hk => hk.1.1.2) (.int .i64 ((rd_T31 t160 x12_2).f0))) (fun _ hk => hk.1.2) (.int .i64 (wrap64 (x10_1 + ((rd_T31 t160 x12_2).f1))))) (fun _ hk => hk.2) (.int .i64 (wrap64 (wrap64 (x10_1 + ((rd_T31 t160 x12_2).f2)))))) (fun _ hk => trivial)⟩
                            have n1_ : Aside0 (Kd.R (Kd.int .i64) 2 (((w106.setCell ⟨go84, (x12_2 : Int).toNat, none⟩ (.int .i64 ((rd_T31 t160 x12_2).f0))).setCell ⟨go86, (x12_2 : Int).toNat, none⟩ (.int .i64 (wrap64 (x10_1 + ((rd_T31 t160 x12_2).f1))))).setCell ⟨go88, (x12_2 : Int).toNat, none⟩ (.int .i64 (wrap64 (wrap64 (x10_1 + ((rd_T31 t160 x12_2).f2)))))) w.heap.size (fun k_ => some k_ ≠ (.slice (some ⟨go84, 0, none⟩) x7_2.length co84 : Value).ownBlock ∧ some k_ ≠ (.slice (some ⟨go86, 0, none⟩) x8_2.length co86 : Value).ownBlock) (.slice (some ⟨go88, 0, none⟩) x6_2.length co88) y194) := ⟨by exact Kd.R_mono HQ109.out (fun _ hk => ⟨hk.1.1.1, hk.1.1.2⟩)⟩
                            have n2_ : Aside0 (Kd.R (Kd.int .i64) 2 (((w106.setCell ⟨go84, (x12_2 : Int).toNat, none⟩ (.int .i64 ((rd_T31 t160 x12_2).f0))).setCell ⟨go86, (x12_2 : Int).toNat, none⟩ (.int .i64 (wrap64 (x10_1 + ((rd_T31 t160 x12_2).f1))))).setCell ⟨go88, (x12_2 : Int).toNat, none⟩ (.int .i64 (wrap64 (wrap64 (x10_1 + ((rd_T31 t160 x12_2).f2)))))) w.heap.size (fun k_ => some k_ ≠ (.slice (some ⟨go88, 0, none⟩) x6_2.length co88 : Value).ownBlock ∧ some k_ ≠ (.slice (some ⟨go86, 0, none⟩) x8_2.length co86 : Value).ownBlock) (.slice (some ⟨go84, 0, none⟩) x7_2.length co84) y192) := ⟨by exact Kd.R_mono (Kd.R_far (p := ⟨go88, (x12_2 : Int).toNat, none⟩) (Kd.R_far (p := ⟨go86, (x12_2 : Int).toNat, none⟩) (Kd.R_mono (Kd.R_mono HQ107.out (fun k_ hk => (⟨hk, fun e_ => hk.2 (by rw [e_]; rfl)⟩ : _ ∧ k_ ≠ go86))) (fun k_ hk => (⟨hk, fun e_ => hk.1.1 (by rw [e_]; rfl)⟩ : _ ∧ k_ ≠ go88))) (fun _ hk => hk.1.2) (.int .i64 (wrap64 (x10_1 + ((rd_T31 t160 x12_2).f1))))) (fun _ hk => hk.2) (.int .i64 (wrap64 (wrap64 (x10_1 + ((rd_T31 t160 x12_2).f2)))))) (fun _ hk => ⟨hk.1.1.1, hk.1.1.2⟩)⟩
                            have n3_ : Aside0 (Kd.R (Kd.int .i64) 2 (((w106.setCell ⟨go84, (x12_2 : Int).toNat, none⟩ (.int .i64 ((rd_T31 t160 x12_2).f0))).setCell ⟨go86, (x12_2 : Int).toNat, none⟩ (.int .i64 (wrap64 (x10_1 + ((rd_T31 t160 x12_2).f1))))).setCell ⟨go88, (x12_2 : Int).toNat, none⟩ (.int .i64 (wrap64 (wrap64 (x10_1 + ((rd_T31 t160 x12_2).f2)))))) w.heap.size (fun k_ => some k_ ≠ (.slice (some ⟨go88, 0, none⟩) x6_2.length co88 : Value).ownBlock ∧ some k_ ≠ (.slice (some ⟨go84, 0, none⟩) x7_2.length co84 : Value).ownBlock) (.slice (some ⟨go86, 0, none⟩) x8_2.length co86) y193) := ⟨by exact Kd.R_mono (Kd.R_far (p := ⟨go88, (x12_2 : Int).toNat, none⟩) (Kd.R_mono HQ108.out (fun k_ hk => (⟨hk, fun e_ => hk.1.1 (by rw [e_]; rfl)⟩ : _ ∧ k_ ≠ go88))) (fun _ hk => hk.2) (.int .i64 (wrap64 (wrap64 (x10_1 + ((rd_T31 t160 x12_2).f2)))))) (fun _ hk => ⟨hk.1.1.1, hk.1.1.2⟩)⟩
                            have n4_ : Aside0 (Below w.heap.size w (((w106.setCell ⟨go84, (x12_2 : Int).toNat, none⟩ (.int .i64 ((rd_T31 t160 x12_2).f0))).setCell ⟨go86, (x12_2 : Int).toNat, none⟩ (.int .i64 (wrap64 (x10_1 + ((rd_T31 t160 x12_2).f1))))).setCell ⟨go88, (x12_2 : Int).toNat, none⟩ (.int .i64 (wrap64 (wrap64 (x10_1 + ((rd_T31 t160 x12_2).f2))))))) := ⟨by repeat ((with_reducible first | exact HB.out | refine below_set ?_ GB84.out | refine below_set ?_ GB86.out | refine below_set ?_ GB88.out))⟩
                            (try clear HO_0)
                            (try clear HO_6)
                            (try clear HO_7)
                            (try clear HO_8)
                            (try clear HB)
                            generalize (((w106.setCell ⟨go84, (x12_2 : Int).toNat, none⟩ (.int .i64 ((rd_T31 t160 x12_2).f0))).setCell ⟨go86, (x12_2 : Int).toNat, none⟩ (.int .i64 (wrap64 (x10_1 + ((rd_T31 t160 x12_2).f1))))).setCell ⟨go88, (x12_2 : Int).toNat, none⟩ (.int .i64 (wrap64 (wrap64 (x10_1 + ((rd_T31 t160 x12_2).f2)))))) = w110 at n0_ n1_ n2_ n3_ n4_ ⊢
                            have HO_0 := n0_
                            have HO_6 := n1_
                            have HO_7 := n2_
                            have HO_8 := n3_
                            have HB := n4_
                            clear n0_ n1_ n2_ n3_ n4_
                            replace HO_0 := Aside0.mk (Kd.R_drew HO_0.out)
                            replace HO_6 := Aside0.mk (Kd.R_drew HO_6.out)
                            replace HO_7 := Aside0.mk (Kd.R_drew HO_7.out)
                            replace HO_8 := Aside0.mk (Kd.R_drew HO_8.out)
                            replace HB := Aside0.mk (below_drew1 HB.out)
                            have p195 : 0 ≤ (x12_2 : Int) := of_decide_eq_true (by (with_reducible assumption))
                            have q195 : x12_2 < (y192.length : Int) := (by have h_ : (x12_2 : Int) < ((x7_2.length : Int) : Int) := of_decide_eq_true (by (with_reducible assumption)); (have e_ := (Kd.R_reads' HO_7.out).1; omega))
                            have ql195 : ((x12_2 : Int) < ((x7_2.length : Int) : Int)) = True := eq_true (of_decide_eq_true (by (with_reducible assumption)))
                            obtain ⟨ad195, e195, hx195_0⟩ := Kd.at_int (Kd.R_reads' HO_7.out).2.2 x12_2 p195 q195
                            obtain rfl : (⟨go84, 0, none⟩ : Addr) = ad195 := (by injection e195)
                            ((simp only [add_at] at hx195_0))
                            (try simp only [Nat.zero_add] at hx195_0)
                            replace p195 := eq_true p195
                            replace q195 := eq_true q195
                            have p196 : 0 ≤ (x12_2 : Int) := of_decide_eq_true (by (with_reducible assumption))
                            have q196 : x12_2 < (y193.length : Int) := (by have h_ : (x12_2 : Int) < ((x8_2.length : Int) : Int) := of_decide_eq_true (by (with_reducible assumption)); (have e_ := (Kd.R_reads' HO_8.out).1; omega))
                            have ql196 : ((x12_2 : Int) < ((x8_2.length : Int) : Int)) = True := eq_true (of_decide_eq_true (by (with_reducible assumption)))
                            obtain ⟨ad196, e196, hx196_0⟩ := Kd.at_int (Kd.R_reads' HO_8.out).2.2 x12_2 p196 q196
                            obtain rfl : (⟨go86, 0, none⟩ : Addr) = ad196 := (by injection e196)
                            ((simp only [add_at] at hx196_0))
                            (try simp only [Nat.zero_add] at hx196_0)
                            replace p196 := eq_true p196
                            replace q196 := eq_true q196
                            have p197 : 0 ≤ (x11_2 : Int) := of_decide_eq_true (by (with_reducible assumption))
                            have q197 : x11_2 < (y193.length : Int) := (by have h_ : (x11_2 : Int) < ((x8_2.length : Int) : Int) := of_decide_eq_true (by (with_reducible assumption)); (have e_ := (Kd.R_reads' HO_8.out).1; omega))
                            have ql197 : ((x11_2 : Int) < ((x8_2.length : Int) : Int)) = True := eq_true (of_decide_eq_true (by (with_reducible assumption)))
                            obtain ⟨ad197, e197, hx197_0⟩ := Kd.at_int (Kd.R_reads' HO_8.out).2.2 x11_2 p197 q197
                            obtain rfl : (⟨go86, 0, none⟩ : Addr) = ad197 := (by injection e197)
                            ((simp only [add_at] at hx197_0))
                            (try simp only [Nat.zero_add] at hx197_0)
                            replace p197 := eq_true p197
                            replace q197 := eq_true q197
                            refine start_ (n := 20) (S := fun w' => w'.cell? ⟨go84, (x12_2).toNat, none⟩ = some (.int .i64 (rd y192 x12_2)) ∧ w'.cell? ⟨go86, (x12_2).toNat, none⟩ = some (.int .i64 (rd y193 x12_2)) ∧ w'.cell? ⟨go86, (x11_2).toNat, none⟩ = some (.int .i64 (rd y193 x11_2))) (ds := []) (bs 20 0) (by kernel_rfl) rfl rfl ⟨hx195_0, hx196_0, hx197_0⟩ (fun hHeld => ?_); refine with_tabW hortatorlaw9_DemandRun.tab24 hortatorlaw9_DemandRun.bits24 (fun HT_ HW_ => ?_)
                            generalize w110.drew = w111 at HO_0 HO_6 HO_7 HO_8 HB HQ107 HQ108 HQ109 hx195_0 hx196_0 hx197_0 hHeld ⊢
                            refine pureA_ (i := 0) (N := some 108) (bs 20 1) HT_ ?_
                            refine pureA_ (i := 1) (N := some 109) (bs 20 3) HT_ ?_
                            refine pureA_ (i := 2) (N := some 110) (bs 20 7) HT_ ?_
                            refine takeA_ (i := 3) (N := some 111) (bs 20 15) HT_ HW_ hHeld ?_
                            refine pureA_ (i := 4) (N := some 112) (bs 20 31) HT_ ?_
                            refine pureA_ (i := 5) (N := some 113) (bs 20 63) HT_ ?_
                            refine pureA_ (i := 6) (N := some 114) (bs 20 127) HT_ ?_
                            refine pureA_ (i := 7) (N := some 115) (bs 20 255) HT_ ?_
                            refine pureA_ (i := 8) (N := some 116) (bs 20 511) HT_ ?_
                            refine pureA_ (i := 9) (N := some 117) (bs 20 1023) HT_ ?_
                            refine pureA_ (i := 10) (N := some 118) (bs 20 2047) HT_ ?_
                            refine pureA_ (i := 11) (N := some 119) (bs 20 4095) HT_ ?_
                            refine pureA_ (i := 13) (N := some 121) (bs 20 12287) HT_ ?_
                            refine pureA_ (i := 14) (N := some 122) (bs 20 28671) HT_ ?_
                            refine pureA_ (i := 15) (N := some 123) (bs 20 61439) HT_ ?_
                            refine takeA_ (i := 12) (N := some 120) (bs 20 65535) HT_ HW_ hHeld ?_
                            refine takeA_ (i := 16) (N := some 124) (bs 20 131071) HT_ HW_ hHeld ?_
                            refine pureA_ (i := 17) (N := some 125) (bs 20 262143) HT_ ?_
                            refine pureA_ (i := 18) (N := some 126) (bs 20 524287) HT_ ?_
                            refine pureA_ (i := 19) (N := some 127) (bs 20 1048575) HT_ ?_
                            refine done_ (done_of HT_.out (by kernel_rfl)) ?_
                            try go_wp2
                            go_roundg kj32
                            case measure => have := HK1.out; have := HK2.out; have := HJ23.out; have := HJ32.out; omega
                            case rel => exact ⟨(y194), (y192), (y193), (wrap64 (x9_2 + 1)), (x11_2), (wrap64 (x12_2 + 1)), (by (rfl)), (by (rfl)), (by (rfl)), H', ⟨by have := HK1.out; have := HK2.out; have := HJ23.out; have := HJ32.out; omega⟩, ⟨HO_0.out⟩, ⟨HO_6.out⟩, ⟨HO_7.out⟩, ⟨HO_8.out⟩, ⟨HB.out⟩⟩
                          ·rw [if_neg c98] at H
                           exact absurd H (by simp)
                         ·rw [if_neg c97] at H
                          exact absurd H (by simp)
                       ·as_aux_lemma =>
                        rw [if_neg c89] at H
                        have c89b0 : decide (0 < (rd y192 x12_2)) = false := decide_eq_false c89
                        clear c89
                        have H' := Aside0.mk H
                        clear H
                        try go_wp2
                        replace HO_0 := Aside0.mk (Kd.R_drew HO_0.out)
                        replace HO_6 := Aside0.mk (Kd.R_drew HO_6.out)
                        replace HO_7 := Aside0.mk (Kd.R_drew HO_7.out)
                        replace HO_8 := Aside0.mk (Kd.R_drew HO_8.out)
                        replace HB := Aside0.mk (below_drew1 HB.out)
                        have p189 : 0 ≤ (x12_2 : Int) := of_decide_eq_true (by (with_reducible assumption))
                        have q189 : x12_2 < (t160.length : Int) := of_decide_eq_true (by (with_reducible assumption))
                        obtain ⟨ad189, e189, hx189_0, hx189_1, hx189_2⟩ := at_T31 (Kd.R_reads' HO_0.out).2.2 x12_2 p189 q189
                        cases e189
                        replace p189 := eq_true p189
                        replace q189 := eq_true q189
                        have p190 : 0 ≤ (x12_2 : Int) := of_decide_eq_true (by (with_reducible assumption))
                        have q190 : x12_2 < (t160.length : Int) := of_decide_eq_true (by (with_reducible assumption))
                        obtain ⟨ad190, e190, hx190_0, hx190_1, hx190_2⟩ := at_T31 (Kd.R_reads' HO_0.out).2.2 x12_2 p190 q190
                        obtain rfl : ad189 = ad190 := (by injection e190)
                        replace p190 := eq_true p190
                        replace q190 := eq_true q190
                        have p191 : 0 ≤ (x12_2 : Int) := of_decide_eq_true (by (with_reducible assumption))
                        have q191 : x12_2 < (t160.length : Int) := of_decide_eq_true (by (with_reducible assumption))
                        obtain ⟨ad191, e191, hx191_0, hx191_1, hx191_2⟩ := at_T31 (Kd.R_reads' HO_0.out).2.2 x12_2 p191 q191
                        obtain rfl : ad189 = ad191 := (by injection e191)
                        replace p191 := eq_true p191
                        replace q191 := eq_true q191
                        have p84 : 0 ≤ (x12_2 : Int) := of_decide_eq_true (by (with_reducible assumption))
                        have q84 : (x12_2 : Int) < ((x7_2.length : Int) : Int) := of_decide_eq_true (by (with_reducible assumption))
                        obtain ⟨go84, co84, eo84, gb84, gl84, cl84, HG84⟩ := Kd.R_form HO_7.out (by omega)
                        ((cases eo84))
                        have GB84 := Aside0.mk gb84
                        have GG84 := Aside0.mk HG84
                        clear gb84 gl84 HG84
                        obtain ⟨hx84_0, hf84_0⟩ := Kd.R_celln 0 HO_7.out (x12_2 : Int) p84 q84
                        replace p84 := eq_true p84
                        replace q84 := eq_true q84
                        have HP113 := Kd.R_putn HO_7.out (x12_2 : Int) ((rd_T31 t160 x12_2).f0)
                        rw [← Ny192.out] at HP113
                        have HQ113 := Aside0.mk HP113
                        clear HP113
                        have p86 : 0 ≤ (x12_2 : Int) := of_decide_eq_true (by (with_reducible assumption))
                        have q86 : (x12_2 : Int) < ((x8_2.length : Int) : Int) := of_decide_eq_true (by (with_reducible assumption))
                        obtain ⟨go86, co86, eo86, gb86, gl86, cl86, HG86⟩ := Kd.R_form HO_8.out (by omega)
                        ((cases eo86))
                        have GB86 := Aside0.mk gb86
                        have GG86 := Aside0.mk HG86
                        clear gb86 gl86 HG86
                        obtain ⟨hx86_0, hf86_0⟩ := Kd.R_celln 0 (Kd.R_far (p := ⟨go84, (x12_2 : Int).toNat, none⟩) (Kd.R_mono HO_8.out (fun k_ hk => (⟨hk, fun e_ => hk.2 (by rw [e_]; rfl)⟩ : _ ∧ k_ ≠ go84))) (fun _ hk => hk.2) (.int .i64 ((rd_T31 t160 x12_2).f0))) (x12_2 : Int) p86 q86
                        replace p86 := eq_true p86
                        replace q86 := eq_true q86
                        have HP114 := Kd.R_putn (Kd.R_far (p := ⟨go84, (x12_2 : Int).toNat, none⟩) (Kd.R_mono HO_8.out (fun k_ hk => (⟨hk, fun e_ => hk.2 (by rw [e_]; rfl)⟩ : _ ∧ k_ ≠ go84))) (fun _ hk => hk.2) (.int .i64 ((rd_T31 t160 x12_2).f0))) (x12_2 : Int) (wrap64 (x10_1 + ((rd_T31 t160 x12_2).f1)))
                        rw [← Ny193.out] at HP114
                        have HQ114 := Aside0.mk HP114
                        clear HP114
                        have p88 : 0 ≤ (x12_2 : Int) := of_decide_eq_true (by (with_reducible assumption))
                        have q88 : (x12_2 : Int) < ((x6_2.length : Int) : Int) := of_decide_eq_true (by (with_reducible assumption))
                        obtain ⟨go88, co88, eo88, gb88, gl88, cl88, HG88⟩ := Kd.R_form HO_6.out (by omega)
                        ((cases eo88))
                        have GB88 := Aside0.mk gb88
                        have GG88 := Aside0.mk HG88
                        clear gb88 gl88 HG88
                        obtain ⟨hx88_0, hf88_0⟩ := Kd.R_celln 0 (Kd.R_far (p := ⟨go86, (x12_2 : Int).toNat, none⟩) (Kd.R_far (p := ⟨go84, (x12_2 : Int).toNat, none⟩) (Kd.R_mono (Kd.R_mono HO_6.out (fun k_ hk => (⟨hk, fun e_ => hk.1 (by rw [e_]; rfl)⟩ : _ ∧ k_ ≠ go84))) (fun k_ hk => (⟨hk, fun e_ => hk.1.2 (by rw [e_]; rfl)⟩ : _ ∧ k_ ≠ go86))) (fun _ hk => hk.1.2) (.int .i64 ((rd_T31 t160 x12_2).f0))) (fun _ hk => hk.2) (.int .i64 (wrap64 (x10_1 + ((rd_T31 t160 x12_2).f1))))) (x12_2 : Int) p88 q88
                        replace p88 := eq_true p88
                        replace q88 := eq_true q88
                        have HP115 := Kd.R_putn (Kd.R_far (p := ⟨go86, (x12_2 : Int).toNat, none⟩) (Kd.R_far (p := ⟨go84, (x12_2 : Int).toNat, none⟩) (Kd.R_mono (Kd.R_mono HO_6.out (fun k_ hk => (⟨hk, fun e_ => hk.1 (by rw [e_]; rfl)⟩ : _ ∧ k_ ≠ go84))) (fun k_ hk => (⟨hk, fun e_ => hk.1.2 (by rw [e_]; rfl)⟩ : _ ∧ k_ ≠ go86))) (fun _ hk => hk.1.2) (.int .i64 ((rd_T31 t160 x12_2).f0))) (fun _ hk => hk.2) (.int .i64 (wrap64 (x10_1 + ((rd_T31 t160 x12_2).f1))))) (x12_2 : Int) (wrap64 (wrap64 (x10_1 + ((rd_T31 t160 x12_2).f2))))
                        rw [← Ny194.out] at HP115
                        have HQ115 := Aside0.mk HP115
                        clear HP115
                        refine start_ (n := 33) (S := fun w' => w'.cell? (ad189.add ((x12_2).toNat * 3)) = some (.int .i64 ((rd_T31 t160 x12_2).f0)) ∧ w'.cell? ⟨(ad189.add ((x12_2).toNat * 3)).block, (ad189.add ((x12_2).toNat * 3)).off + 1, none⟩ = some (.int .i64 ((rd_T31 t160 x12_2).f1)) ∧ w'.cell? ⟨(ad189.add ((x12_2).toNat * 3)).block, (ad189.add ((x12_2).toNat * 3)).off + 2, none⟩ = some (.int .i64 ((rd_T31 t160 x12_2).f2)) ∧ w'.cell? (ad189.add ((x12_2).toNat * 3)) = some (.int .i64 ((rd_T31 t160 x12_2).f0)) ∧ w'.cell? ⟨(ad189.add ((x12_2).toNat * 3)).block, (ad189.add ((x12_2).toNat * 3)).off + 1, none⟩ = some (.int .i64 ((rd_T31 t160 x12_2).f1)) ∧ w'.cell? ⟨(ad189.add ((x12_2).toNat * 3)).block, (ad189.add ((x12_2).toNat * 3)).off + 2, none⟩ = some (.int .i64 ((rd_T31 t160 x12_2).f2)) ∧ w'.cell? (ad189.add ((x12_2).toNat * 3)) = some (.int .i64 ((rd_T31 t160 x12_2).f0)) ∧ w'.cell? ⟨(ad189.add ((x12_2).toNat * 3)).block, (ad189.add ((x12_2).toNat * 3)).off + 1, none⟩ = some (.int .i64 ((rd_T31 t160 x12_2).f1)) ∧ w'.cell? ⟨(ad189.add ((x12_2).toNat * 3)).block, (ad189.add ((x12_2).toNat * 3)).off + 2, none⟩ = some (.int .i64 ((rd_T31 t160 x12_2).f2))) (ds := [28, 30, 32]) (bs 33 0) (by kernel_rfl) rfl rfl ⟨hx189_0, hx189_1, hx189_2, hx190_0, hx190_1, hx190_2, hx191_0, hx191_1, hx191_2⟩ (fun hHeld => ?_); refine with_tabW hortatorlaw9_DemandRun.tab23 hortatorlaw9_DemandRun.bits23 (fun HT_ HW_ => ?_)
                        generalize wc.drew = w112 at HO_0 HO_6 HO_7 HO_8 HB GG84 GG86 GG88 HQ113 HQ114 HQ115 hf84_0 hf86_0 hf88_0 hx189_0 hx189_1 hx189_2 hx190_0 hx190_1 hx190_2 hx191_0 hx191_1 hx191_2 hx84_0 hx86_0 hx88_0 hHeld ⊢
                        refine pureA_ (i := 0) (N := some 78) (bs 33 1) HT_ ?_
                        refine pureA_ (i := 1) (N := some 79) (bs 33 3) HT_ ?_
                        refine pureA_ (i := 2) (N := some 80) (bs 33 7) HT_ ?_
                        refine pureA_ (i := 3) (N := some 81) (bs 33 15) HT_ ?_
                        refine pureA_ (i := 4) (N := some 82) (bs 33 31) HT_ ?_
                        refine pureA_ (i := 5) (N := some 83) (bs 33 63) HT_ ?_
                        refine pureA_ (i := 6) (N := some 84) (bs 33 127) HT_ ?_
                        refine pureA_ (i := 7) (N := some 85) (bs 33 255) HT_ ?_
                        refine pureA_ (i := 8) (N := some 86) (bs 33 511) HT_ ?_
                        refine pureA_ (i := 9) (N := some 87) (bs 33 1023) HT_ ?_
                        refine pureA_ (i := 11) (N := some 89) (bs 33 3071) HT_ ?_
                        refine pureA_ (i := 12) (N := some 90) (bs 33 7167) HT_ ?_
                        refine pureA_ (i := 13) (N := some 91) (bs 33 15359) HT_ ?_
                        refine pureA_ (i := 14) (N := some 92) (bs 33 31743) HT_ ?_
                        refine pureA_ (i := 15) (N := some 93) (bs 33 64511) HT_ ?_
                        refine pureA_ (i := 18) (N := some 96) (bs 33 326655) HT_ ?_
                        refine pureA_ (i := 19) (N := some 97) (bs 33 850943) HT_ ?_
                        refine pureA_ (i := 20) (N := some 98) (bs 33 1899519) HT_ ?_
                        refine pureA_ (i := 21) (N := some 99) (bs 33 3996671) HT_ ?_
                        refine pureA_ (i := 22) (N := some 100) (bs 33 8190975) HT_ ?_
                        refine pureA_ (i := 25) (N := some 103) (bs 33 41745407) HT_ ?_
                        refine takeA_ (i := 10) (N := some 88) (bs 33 41746431) HT_ HW_ hHeld ?_
                        refine takeA_ (i := 16) (N := some 94) (bs 33 41811967) HT_ HW_ hHeld ?_
                        refine pureA_ (i := 17) (N := some 95) (bs 33 41943039) HT_ ?_
                        refine takeA_ (i := 23) (N := some 101) (bs 33 50331647) HT_ HW_ hHeld ?_
                        refine pureA_ (i := 24) (N := some 102) (bs 33 67108863) HT_ ?_
                        refine pureA_ (i := 26) (N := some 104) (bs 33 134217727) HT_ ?_
                        refine pureA_ (i := 27) (N := some 105) (bs 33 268435455) HT_ ?_
                        refine last_ (i := 28) (N := none) (bs 33 536870911) rfl rfl (one_of HT_.out (by kernel_rfl)) (by decide) (fun K hK => ?_)
                        refine skip_ (w1 := ?_) (by rfl) rfl ?_ ?_
                        rotate_left
                        ·go_simp
                         rfl
                        refine hK.out _ _ ?_
                        clear hK K
                        refine pureA_ (i := 29) (N := some 106) (bs 33 1073741823) HT_ ?_
                        refine last_ (i := 30) (N := none) (bs 33 2147483647) rfl rfl (one_of HT_.out (by kernel_rfl)) (by decide) (fun K hK => ?_)
                        refine skip_ (w1 := ?_) (by rfl) rfl ?_ ?_
                        rotate_left
                        ·go_simp
                         rfl
                        refine hK.out _ _ ?_
                        clear hK K
                        refine pureA_ (i := 31) (N := some 107) (bs 33 4294967295) HT_ ?_
                        refine last_ (i := 32) (N := none) (bs 33 8589934591) rfl rfl (one_of HT_.out (by kernel_rfl)) (by decide) (fun K hK => ?_)
                        refine skip_ (w1 := ?_) (by rfl) rfl ?_ ?_
                        rotate_left
                        ·go_simp
                         rfl
                        refine hK.out _ _ ?_
                        clear hK K
                        refine done_ (done_of HT_.out (by kernel_rfl)) ?_
                        try go_wp2
                        have n0_ : Aside0 (Kd.R k31 31 (((w112.setCell ⟨go84, (x12_2 : Int).toNat, none⟩ (.int .i64 ((rd_T31 t160 x12_2).f0))).setCell ⟨go86, (x12_2 : Int).toNat, none⟩ (.int .i64 (wrap64 (x10_1 + ((rd_T31 t160 x12_2).f1))))).setCell ⟨go88, (x12_2 : Int).toNat, none⟩ (.int .i64 (wrap64 (wrap64 (x10_1 + ((rd_T31 t160 x12_2).f2)))))) w.heap.size (fun _ => True) (.slice (some ad189) t160.length co12) t160) := ⟨by exact Kd.R_mono (Kd.R_far (p := ⟨go88, (x12_2 : Int).toNat, none⟩) (Kd.R_far (p := ⟨go86, (x12_2 : Int).toNat, none⟩) (Kd.R_far (p := ⟨go84, (x12_2 : Int).toNat, none⟩) (Kd.R_types (Kd.R_types (Kd.R_types HO_0.out GG84.out (by decide)) GG86.out (by decide)) GG88.out (by decide)) (fun _ hk => hk.1.1.2) (.int .i64 ((rd_T31 t160 x12_2).f0))) (fun _ hk => hk.1.2) (.int .i64 (wrap64 (x10_1 + ((rd_T31 t160 x12_2).f1))))) (fun _ hk => hk.2) (.int .i64 (wrap64 (wrap64 (x10_1 + ((rd_T31 t160 x12_2).f2)))))) (fun _ hk => trivial)⟩
                        have n1_ : Aside0 (Kd.R (Kd.int .i64) 2 (((w112.setCell ⟨go84, (x12_2 : Int).toNat, none⟩ (.int .i64 ((rd_T31 t160 x12_2).f0))).setCell ⟨go86, (x12_2 : Int).toNat, none⟩ (.int .i64 (wrap64 (x10_1 + ((rd_T31 t160 x12_2).f1))))).setCell ⟨go88, (x12_2 : Int).toNat, none⟩ (.int .i64 (wrap64 (wrap64 (x10_1 + ((rd_T31 t160 x12_2).f2)))))) w.heap.size (fun k_ => some k_ ≠ (.slice (some ⟨go84, 0, none⟩) x7_2.length co84 : Value).ownBlock ∧ some k_ ≠ (.slice (some ⟨go86, 0, none⟩) x8_2.length co86 : Value).ownBlock) (.slice (some ⟨go88, 0, none⟩) x6_2.length co88) y194) := ⟨by exact Kd.R_mono HQ115.out (fun _ hk => ⟨hk.1.1.1, hk.1.1.2⟩)⟩
                        have n2_ : Aside0 (Kd.R (Kd.int .i64) 2 (((w112.setCell ⟨go84, (x12_2 : Int).toNat, none⟩ (.int .i64 ((rd_T31 t160 x12_2).f0))).setCell ⟨go86, (x12_2 : Int).toNat, none⟩ (.int .i64 (wrap64 (x10_1 + ((rd_T31 t160 x12_2).f1))))).setCell ⟨go88, (x12_2 : Int).toNat, none⟩ (.int .i64 (wrap64 (wrap64 (x10_1 + ((rd_T31 t160 x12_2).f2)))))) w.heap.size (fun k_ => some k_ ≠ (.slice (some ⟨go88, 0, none⟩) x6_2.length co88 : Value).ownBlock ∧ some k_ ≠ (.slice (some ⟨go86, 0, none⟩) x8_2.length co86 : Value).ownBlock) (.slice (some ⟨go84, 0, none⟩) x7_2.length co84) y192) := ⟨by exact Kd.R_mono (Kd.R_far (p := ⟨go88, (x12_2 : Int).toNat, none⟩) (Kd.R_far (p := ⟨go86, (x12_2 : Int).toNat, none⟩) (Kd.R_mono (Kd.R_mono HQ113.out (fun k_ hk => (⟨hk, fun e_ => hk.2 (by rw [e_]; rfl)⟩ : _ ∧ k_ ≠ go86))) (fun k_ hk => (⟨hk, fun e_ => hk.1.1 (by rw [e_]; rfl)⟩ : _ ∧ k_ ≠ go88))) (fun _ hk => hk.1.2) (.int .i64 (wrap64 (x10_1 + ((rd_T31 t160 x12_2).f1))))) (fun _ hk => hk.2) (.int .i64 (wrap64 (wrap64 (x10_1 + ((rd_T31 t160 x12_2).f2)))))) (fun _ hk => ⟨hk.1.1.1, hk.1.1.2⟩)⟩
                        have n3_ : Aside0 (Kd.R (Kd.int .i64) 2 (((w112.setCell ⟨go84, (x12_2 : Int).toNat, none⟩ (.int .i64 ((rd_T31 t160 x12_2).f0))).setCell ⟨go86, (x12_2 : Int).toNat, none⟩ (.int .i64 (wrap64 (x10_1 + ((rd_T31 t160 x12_2).f1))))).setCell ⟨go88, (x12_2 : Int).toNat, none⟩ (.int .i64 (wrap64 (wrap64 (x10_1 + ((rd_T31 t160 x12_2).f2)))))) w.heap.size (fun k_ => some k_ ≠ (.slice (some ⟨go88, 0, none⟩) x6_2.length co88 : Value).ownBlock ∧ some k_ ≠ (.slice (some ⟨go84, 0, none⟩) x7_2.length co84 : Value).ownBlock) (.slice (some ⟨go86, 0, none⟩) x8_2.length co86) y193) := ⟨by exact Kd.R_mono (Kd.R_far (p := ⟨go88, (x12_2 : Int).toNat, none⟩) (Kd.R_mono HQ114.out (fun k_ hk => (⟨hk, fun e_ => hk.1.1 (by rw [e_]; rfl)⟩ : _ ∧ k_ ≠ go88))) (fun _ hk => hk.2) (.int .i64 (wrap64 (wrap64 (x10_1 + ((rd_T31 t160 x12_2).f2)))))) (fun _ hk => ⟨hk.1.1.1, hk.1.1.2⟩)⟩
                        have n4_ : Aside0 (Below w.heap.size w (((w112.setCell ⟨go84, (x12_2 : Int).toNat, none⟩ (.int .i64 ((rd_T31 t160 x12_2).f0))).setCell ⟨go86, (x12_2 : Int).toNat, none⟩ (.int .i64 (wrap64 (x10_1 + ((rd_T31 t160 x12_2).f1))))).setCell ⟨go88, (x12_2 : Int).toNat, none⟩ (.int .i64 (wrap64 (wrap64 (x10_1 + ((rd_T31 t160 x12_2).f2))))))) := ⟨by repeat ((with_reducible first | exact HB.out | refine below_set ?_ GB84.out | refine below_set ?_ GB86.out | refine below_set ?_ GB88.out))⟩
                        (try clear HO_0)
                        (try clear HO_6)
                        (try clear HO_7)
                        (try clear HO_8)
                        (try clear HB)
                        generalize (((w112.setCell ⟨go84, (x12_2 : Int).toNat, none⟩ (.int .i64 ((rd_T31 t160 x12_2).f0))).setCell ⟨go86, (x12_2 : Int).toNat, none⟩ (.int .i64 (wrap64 (x10_1 + ((rd_T31 t160 x12_2).f1))))).setCell ⟨go88, (x12_2 : Int).toNat, none⟩ (.int .i64 (wrap64 (wrap64 (x10_1 + ((rd_T31 t160 x12_2).f2)))))) = w116 at n0_ n1_ n2_ n3_ n4_ ⊢
                        have HO_0 := n0_
                        have HO_6 := n1_
                        have HO_7 := n2_
                        have HO_8 := n3_
                        have HB := n4_
                        clear n0_ n1_ n2_ n3_ n4_
                        replace HO_0 := Aside0.mk (Kd.R_drew HO_0.out)
                        replace HO_6 := Aside0.mk (Kd.R_drew HO_6.out)
                        replace HO_7 := Aside0.mk (Kd.R_drew HO_7.out)
                        replace HO_8 := Aside0.mk (Kd.R_drew HO_8.out)
                        replace HB := Aside0.mk (below_drew1 HB.out)
                        have p195 : 0 ≤ (x12_2 : Int) := of_decide_eq_true (by (with_reducible assumption))
                        have q195 : x12_2 < (y192.length : Int) := (by have h_ : (x12_2 : Int) < ((x7_2.length : Int) : Int) := of_decide_eq_true (by (with_reducible assumption)); (have e_ := (Kd.R_reads' HO_7.out).1; omega))
                        have ql195 : ((x12_2 : Int) < ((x7_2.length : Int) : Int)) = True := eq_true (of_decide_eq_true (by (with_reducible assumption)))
                        obtain ⟨ad195, e195, hx195_0⟩ := Kd.at_int (Kd.R_reads' HO_7.out).2.2 x12_2 p195 q195
                        obtain rfl : (⟨go84, 0, none⟩ : Addr) = ad195 := (by injection e195)
                        ((simp only [add_at] at hx195_0))
                        (try simp only [Nat.zero_add] at hx195_0)
                        replace p195 := eq_true p195
                        replace q195 := eq_true q195
                        refine start_ (n := 20) (S := fun w' => w'.cell? ⟨go84, (x12_2).toNat, none⟩ = some (.int .i64 (rd y192 x12_2))) (ds := []) (bs 20 0) (by kernel_rfl) rfl rfl (hx195_0) (fun hHeld => ?_); refine with_tabW hortatorlaw9_DemandRun.tab24 hortatorlaw9_DemandRun.bits24 (fun HT_ HW_ => ?_)
                        generalize w116.drew = w117 at HO_0 HO_6 HO_7 HO_8 HB HQ113 HQ114 HQ115 hx195_0 hHeld ⊢
                        refine pureA_ (i := 0) (N := some 108) (bs 20 1) HT_ ?_
                        refine pureA_ (i := 1) (N := some 109) (bs 20 3) HT_ ?_
                        refine pureA_ (i := 2) (N := some 110) (bs 20 7) HT_ ?_
                        refine take_ (i := 3) (N := some 111) (v := ?_) (a' := ?_) (bs 20 15) rfl rfl (take_ofW HT_.out HW_.out (by kernel_rfl)) (fun _ _ _ h => h) (Or.inl ⟨by rfl, ?_⟩) hHeld ?_ ?_
                        rotate_left
                        ·intro w' s0
                         go_simp
                         with_reducible rfl
                        rotate_left
                        ·simp only [Act.put, List.setIfInBounds_toArray, List.set_cons_zero, List.set_cons_succ, i64_w, i32_w]
                         rfl
                        refine pureA_ (i := 4) (N := some 112) (bs 20 31) HT_ ?_
                        refine pureA_ (i := 5) (N := some 113) (bs 20 63) HT_ ?_
                        refine pureB_ (i := 6) (N := some 114) (bs 20 127) HT_ ?_
                        refine pureB_ (i := 7) (N := some 115) (bs 20 255) HT_ ?_
                        refine pureB_ (i := 8) (N := some 116) (bs 20 511) HT_ ?_
                        refine pureB_ (i := 9) (N := some 117) (bs 20 1023) HT_ ?_
                        refine pureB_ (i := 10) (N := some 118) (bs 20 2047) HT_ ?_
                        refine pureB_ (i := 11) (N := some 119) (bs 20 4095) HT_ ?_
                        refine pureB_ (i := 12) (N := some 120) (bs 20 8191) HT_ ?_
                        refine pureB_ (i := 13) (N := some 121) (bs 20 16383) HT_ ?_
                        refine pureB_ (i := 14) (N := some 122) (bs 20 32767) HT_ ?_
                        refine pureB_ (i := 15) (N := some 123) (bs 20 65535) HT_ ?_
                        refine pureB_ (i := 16) (N := some 124) (bs 20 131071) HT_ ?_
                        refine pureB_ (i := 17) (N := some 125) (bs 20 262143) HT_ ?_
                        refine pureB_ (i := 18) (N := some 126) (bs 20 524287) HT_ ?_
                        refine pureA_ (i := 19) (N := some 127) (bs 20 1048575) HT_ ?_
                        refine done_ (done_of HT_.out (by kernel_rfl)) ?_
                        try go_wp2
                        go_roundg kj32
                        case measure => have := HK1.out; have := HK2.out; have := HJ23.out; have := HJ32.out; omega
                        case rel => exact ⟨(y194), (y192), (y193), (wrap64 (x9_2 + 1)), (x11_2), (wrap64 (x12_2 + 1)), (by (rfl)), (by (rfl)), (by (rfl)), H', ⟨by have := HK1.out; have := HK2.out; have := HJ23.out; have := HJ32.out; omega⟩, ⟨HO_0.out⟩, ⟨HO_6.out⟩, ⟨HO_7.out⟩, ⟨HO_8.out⟩, ⟨HB.out⟩⟩
                      ·rw [if_neg c87] at H
                       exact absurd H (by simp)
                     ·rw [if_neg c85] at H
                      exact absurd H (by simp)
                    ·rw [if_neg c83] at H
                     exact absurd H (by simp)
                   ·rw [if_neg c82] at H
                    exact absurd H (by simp)
                  ·rw [if_neg c81] at H
                   exact absurd H (by simp)
                ·as_aux_lemma =>
                 replace c41 := Bool.eq_false_iff.mpr c41
                 subst c41
                 have H1 : (if 0 ≤ x12_2 then (if x12_2 < (x7_2.length : Int) then (if (rd x7_2 x12_2) > 0 then (if x11_2 < 0 then (hortatorlaw9_DemandRun.l1 kj32 t160 l1 x6_2 x7_2 x8_2 x9_2 x10_1 x12_2 (wrap64 (x12_2 + 1))) else (if x12_2 < (x8_2.length : Int) then (if 0 ≤ x11_2 then (if x11_2 < (x8_2.length : Int) then (if (rd x8_2 x12_2) < (rd x8_2 x11_2) then (hortatorlaw9_DemandRun.l1 kj32 t160 l1 x6_2 x7_2 x8_2 x9_2 x10_1 x12_2 (wrap64 (x12_2 + 1))) else (hortatorlaw9_DemandRun.l1 kj32 t160 l1 x6_2 x7_2 x8_2 x9_2 x10_1 x11_2 (wrap64 (x12_2 + 1)))) else (none)) else (none)) else (none))) else (hortatorlaw9_DemandRun.l1 kj32 t160 l1 x6_2 x7_2 x8_2 x9_2 x10_1 x11_2 (wrap64 (x12_2 + 1)))) else (none)) else (none)) = some r := by rw [if_neg (show ¬ (false = true) by decide)] at H; exact H
                 clear H
                 have H := H1
                 clear H1
                 by_cases c118 : 0 ≤ x12_2
                 ·rw [if_pos c118] at H
                  have c118b0 : decide (0 ≤ x12_2) = true := decide_eq_true c118
                  clear c118
                  by_cases c119 : x12_2 < (x7_2.length : Int)
                  ·rw [if_pos c119] at H
                   have c119b0 : decide (x12_2 < (x7_2.length : Int)) = true := decide_eq_true c119
                   clear c119
                   by_cases c120 : (rd x7_2 x12_2) > 0
                   ·rw [if_pos c120] at H
                    have c120b0 : decide (0 < (rd x7_2 x12_2)) = true := decide_eq_true c120
                    clear c120
                    by_cases c121 : x11_2 < 0
                    ·rw [if_pos c121] at H
                     have c121b0 : decide (x11_2 < 0) = true := decide_eq_true c121
                     clear c121
                     have H' := Aside0.mk H
                     clear H
                     try go_wp2
                     replace HO_0 := Aside0.mk (Kd.R_drew HO_0.out)
                     replace HO_6 := Aside0.mk (Kd.R_drew HO_6.out)
                     replace HO_7 := Aside0.mk (Kd.R_drew HO_7.out)
                     replace HO_8 := Aside0.mk (Kd.R_drew HO_8.out)
                     replace HB := Aside0.mk (below_drew1 HB.out)
                     obtain ⟨Ao123, co123, eo123⟩ := Kd.R_slice HO_7.out
                     ((subst eo123))
                     have p198 : 0 ≤ (x12_2 : Int) := of_decide_eq_true (by (with_reducible assumption))
                     have q198 : x12_2 < (x7_2.length : Int) := of_decide_eq_true (by (with_reducible assumption))
                     obtain ⟨ad198, e198, hx198_0⟩ := Kd.at_int (Kd.R_reads' HO_7.out).2.2 x12_2 p198 q198
                     cases e198
                     replace p198 := eq_true p198
                     replace q198 := eq_true q198
                     refine start_ (n := 20) (S := fun w' => w'.cell? (ad198.add (x12_2).toNat) = some (.int .i64 (rd x7_2 x12_2))) (ds := []) (bs 20 0) (by kernel_rfl) rfl rfl (hx198_0) (fun hHeld => ?_); refine with_tabW hortatorlaw9_DemandRun.tab24 hortatorlaw9_DemandRun.bits24 (fun HT_ HW_ => ?_)
                     generalize wc.drew = w122 at HO_0 HO_6 HO_7 HO_8 HB hx198_0 hHeld ⊢
                     refine pureA_ (i := 0) (N := some 108) (bs 20 1) HT_ ?_
                     refine pureA_ (i := 1) (N := some 109) (bs 20 3) HT_ ?_
                     refine pureA_ (i := 2) (N := some 110) (bs 20 7) HT_ ?_
                     refine take_ (i := 3) (N := some 111) (v := ?_) (a' := ?_) (bs 20 15) rfl rfl (take_ofW HT_.out HW_.out (by kernel_rfl)) (fun _ _ _ h => h) (Or.inl ⟨by rfl, ?_⟩) hHeld ?_ ?_
                     rotate_left
                     ·intro w' s0
                      go_simp
                      with_reducible rfl
                     rotate_left
                     ·simp only [Act.put, List.setIfInBounds_toArray, List.set_cons_zero, List.set_cons_succ, i64_w, i32_w]
                      rfl
                     refine pureA_ (i := 4) (N := some 112) (bs 20 31) HT_ ?_
                     refine pureA_ (i := 5) (N := some 113) (bs 20 63) HT_ ?_
                     refine pureA_ (i := 6) (N := some 114) (bs 20 127) HT_ ?_
                     refine pureA_ (i := 7) (N := some 115) (bs 20 255) HT_ ?_
                     refine pureA_ (i := 8) (N := some 116) (bs 20 511) HT_ ?_
                     refine pureB_ (i := 9) (N := some 117) (bs 20 1023) HT_ ?_
                     refine pureB_ (i := 10) (N := some 118) (bs 20 2047) HT_ ?_
                     refine pureB_ (i := 11) (N := some 119) (bs 20 4095) HT_ ?_
                     refine pureB_ (i := 12) (N := some 120) (bs 20 8191) HT_ ?_
                     refine pureB_ (i := 13) (N := some 121) (bs 20 16383) HT_ ?_
                     refine pureB_ (i := 14) (N := some 122) (bs 20 32767) HT_ ?_
                     refine pureB_ (i := 15) (N := some 123) (bs 20 65535) HT_ ?_
                     refine pureB_ (i := 16) (N := some 124) (bs 20 131071) HT_ ?_
                     refine pureB_ (i := 17) (N := some 125) (bs 20 262143) HT_ ?_
                     refine pureA_ (i := 18) (N := some 126) (bs 20 524287) HT_ ?_
                     refine pureA_ (i := 19) (N := some 127) (bs 20 1048575) HT_ ?_
                     refine done_ (done_of HT_.out (by kernel_rfl)) ?_
                     try go_wp2
                     go_roundg kj32
                     case measure => have := HK1.out; have := HK2.out; have := HJ23.out; have := HJ32.out; omega
                     case rel => exact ⟨(x6_2), (x7_2), (x8_2), (x9_2), (x12_2), (wrap64 (x12_2 + 1)), (by (rfl)), (by (rfl)), (by (rfl)), H', ⟨by have := HK1.out; have := HK2.out; have := HJ23.out; have := HJ32.out; omega⟩, ⟨HO_0.out⟩, ⟨HO_6.out⟩, ⟨HO_7.out⟩, ⟨HO_8.out⟩, ⟨HB.out⟩⟩
                    ·rw [if_neg c121] at H
                     have c121b0 : decide (x11_2 < 0) = false := decide_eq_false c121
                     clear c121
                     by_cases c124 : x12_2 < (x8_2.length : Int)
                     ·rw [if_pos c124] at H
                      have c124b0 : decide (x12_2 < (x8_2.length : Int)) = true := decide_eq_true c124
                      clear c124
                      by_cases c125 : 0 ≤ x11_2
                      ·rw [if_pos c125] at H
                       have c125b0 : decide (0 ≤ x11_2) = true := decide_eq_true c125
                       clear c125
                       by_cases c126 : x11_2 < (x8_2.length : Int)
                       ·rw [if_pos c126] at H
                        have c126b0 : decide (x11_2 < (x8_2.length : Int)) = true := decide_eq_true c126
                        clear c126
                        by_cases c127 : (rd x8_2 x12_2) < (rd x8_2 x11_2)
                        ·rw [if_pos c127] at H
                         have c127b0 : decide ((rd x8_2 x12_2) < (rd x8_2 x11_2)) = true := decide_eq_true c127
                         clear c127
                         have H' := Aside0.mk H
                         clear H
                         try go_wp2
                         replace HO_0 := Aside0.mk (Kd.R_drew HO_0.out)
                         replace HO_6 := Aside0.mk (Kd.R_drew HO_6.out)
                         replace HO_7 := Aside0.mk (Kd.R_drew HO_7.out)
                         replace HO_8 := Aside0.mk (Kd.R_drew HO_8.out)
                         replace HB := Aside0.mk (below_drew1 HB.out)
                         obtain ⟨Ao129, co129, eo129⟩ := Kd.R_slice HO_7.out
                         ((subst eo129))
                         have p198 : 0 ≤ (x12_2 : Int) := of_decide_eq_true (by (with_reducible assumption))
                         have q198 : x12_2 < (x7_2.length : Int) := of_decide_eq_true (by (with_reducible assumption))
                         obtain ⟨ad198, e198, hx198_0⟩ := Kd.at_int (Kd.R_reads' HO_7.out).2.2 x12_2 p198 q198
                         cases e198
                         replace p198 := eq_true p198
                         replace q198 := eq_true q198
                         obtain ⟨Ao130, co130, eo130⟩ := Kd.R_slice HO_8.out
                         ((subst eo130))
                         have p199 : 0 ≤ (x12_2 : Int) := of_decide_eq_true (by (with_reducible assumption))
                         have q199 : x12_2 < (x8_2.length : Int) := of_decide_eq_true (by (with_reducible assumption))
                         obtain ⟨ad199, e199, hx199_0⟩ := Kd.at_int (Kd.R_reads' HO_8.out).2.2 x12_2 p199 q199
                         cases e199
                         replace p199 := eq_true p199
                         replace q199 := eq_true q199
                         have p200 : 0 ≤ (x11_2 : Int) := of_decide_eq_true (by (with_reducible assumption))
                         have q200 : x11_2 < (x8_2.length : Int) := of_decide_eq_true (by (with_reducible assumption))
                         obtain ⟨ad200, e200, hx200_0⟩ := Kd.at_int (Kd.R_reads' HO_8.out).2.2 x11_2 p200 q200
                         obtain rfl : ad199 = ad200 := (by injection e200)
                         replace p200 := eq_true p200
                         replace q200 := eq_true q200
                         refine start_ (n := 20) (S := fun w' => w'.cell? (ad198.add (x12_2).toNat) = some (.int .i64 (rd x7_2 x12_2)) ∧ w'.cell? (ad199.add (x12_2).toNat) = some (.int .i64 (rd x8_2 x12_2)) ∧ w'.cell? (ad199.add (x11_2).toNat) = some (.int .i64 (rd x8_2 x11_2))) (ds := []) (bs 20 0) (by kernel_rfl) rfl rfl ⟨hx198_0, hx199_0, hx200_0⟩ (fun hHeld => ?_); refine with_tabW hortatorlaw9_DemandRun.tab24 hortatorlaw9_DemandRun.bits24 (fun HT_ HW_ => ?_)
                         generalize wc.drew = w128 at HO_0 HO_6 HO_7 HO_8 HB hx198_0 hx199_0 hx200_0 hHeld ⊢
                         refine pureA_ (i := 0) (N := some 108) (bs 20 1) HT_ ?_
                         refine pureA_ (i := 1) (N := some 109) (bs 20 3) HT_ ?_
                         refine pureA_ (i := 2) (N := some 110) (bs 20 7) HT_ ?_
                         refine takeA_ (i := 3) (N := some 111) (bs 20 15) HT_ HW_ hHeld ?_
                         refine pureA_ (i := 4) (N := some 112) (bs 20 31) HT_ ?_
                         refine pureA_ (i := 5) (N := some 113) (bs 20 63) HT_ ?_
                         refine pureA_ (i := 6) (N := some 114) (bs 20 127) HT_ ?_
                         refine pureA_ (i := 7) (N := some 115) (bs 20 255) HT_ ?_
                         refine pureA_ (i := 8) (N := some 116) (bs 20 511) HT_ ?_
                         refine pureA_ (i := 9) (N := some 117) (bs 20 1023) HT_ ?_
                         refine pureA_ (i := 10) (N := some 118) (bs 20 2047) HT_ ?_
                         refine pureA_ (i := 11) (N := some 119) (bs 20 4095) HT_ ?_
                         refine pureA_ (i := 13) (N := some 121) (bs 20 12287) HT_ ?_
                         refine pureA_ (i := 14) (N := some 122) (bs 20 28671) HT_ ?_
                         refine pureA_ (i := 15) (N := some 123) (bs 20 61439) HT_ ?_
                         refine takeA_ (i := 12) (N := some 120) (bs 20 65535) HT_ HW_ hHeld ?_
                         refine takeA_ (i := 16) (N := some 124) (bs 20 131071) HT_ HW_ hHeld ?_
                         refine pureA_ (i := 17) (N := some 125) (bs 20 262143) HT_ ?_
                         refine pureA_ (i := 18) (N := some 126) (bs 20 524287) HT_ ?_
                         refine pureA_ (i := 19) (N := some 127) (bs 20 1048575) HT_ ?_
                         refine done_ (done_of HT_.out (by kernel_rfl)) ?_
                         try go_wp2
                         go_roundg kj32
                         case measure => have := HK1.out; have := HK2.out; have := HJ23.out; have := HJ32.out; omega
                         case rel => exact ⟨(x6_2), (x7_2), (x8_2), (x9_2), (x12_2), (wrap64 (x12_2 + 1)), (by (rfl)), (by (rfl)), (by (rfl)), H', ⟨by have := HK1.out; have := HK2.out; have := HJ23.out; have := HJ32.out; omega⟩, ⟨HO_0.out⟩, ⟨HO_6.out⟩, ⟨HO_7.out⟩, ⟨HO_8.out⟩, ⟨HB.out⟩⟩
                        ·rw [if_neg c127] at H
                         have c127b0 : decide ((rd x8_2 x12_2) < (rd x8_2 x11_2)) = false := decide_eq_false c127
                         clear c127
                         have H' := Aside0.mk H
                         clear H
                         try go_wp2
                         replace HO_0 := Aside0.mk (Kd.R_drew HO_0.out)
                         replace HO_6 := Aside0.mk (Kd.R_drew HO_6.out)
                         replace HO_7 := Aside0.mk (Kd.R_drew HO_7.out)
                         replace HO_8 := Aside0.mk (Kd.R_drew HO_8.out)
                         replace HB := Aside0.mk (below_drew1 HB.out)
                         obtain ⟨Ao132, co132, eo132⟩ := Kd.R_slice HO_7.out
                         ((subst eo132))
                         have p198 : 0 ≤ (x12_2 : Int) := of_decide_eq_true (by (with_reducible assumption))
                         have q198 : x12_2 < (x7_2.length : Int) := of_decide_eq_true (by (with_reducible assumption))
                         obtain ⟨ad198, e198, hx198_0⟩ := Kd.at_int (Kd.R_reads' HO_7.out).2.2 x12_2 p198 q198
                         cases e198
                         replace p198 := eq_true p198
                         replace q198 := eq_true q198
                         obtain ⟨Ao133, co133, eo133⟩ := Kd.R_slice HO_8.out
                         ((subst eo133))
                         have p199 : 0 ≤ (x12_2 : Int) := of_decide_eq_true (by (with_reducible assumption))
                         have q199 : x12_2 < (x8_2.length : Int) := of_decide_eq_true (by (with_reducible assumption))
                         obtain ⟨ad199, e199, hx199_0⟩ := Kd.at_int (Kd.R_reads' HO_8.out).2.2 x12_2 p199 q199
                         cases e199
                         replace p199 := eq_true p199
                         replace q199 := eq_true q199
                         have p200 : 0 ≤ (x11_2 : Int) := of_decide_eq_true (by (with_reducible assumption))
                         have q200 : x11_2 < (x8_2.length : Int) := of_decide_eq_true (by (with_reducible assumption))
                         obtain ⟨ad200, e200, hx200_0⟩ := Kd.at_int (Kd.R_reads' HO_8.out).2.2 x11_2 p200 q200
                         obtain rfl : ad199 = ad200 := (by injection e200)
                         replace p200 := eq_true p200
                         replace q200 := eq_true q200
                         refine start_ (n := 20) (S := fun w' => w'.cell? (ad198.add (x12_2).toNat) = some (.int .i64 (rd x7_2 x12_2)) ∧ w'.cell? (ad199.add (x12_2).toNat) = some (.int .i64 (rd x8_2 x12_2)) ∧ w'.cell? (ad199.add (x11_2).toNat) = some (.int .i64 (rd x8_2 x11_2))) (ds := []) (bs 20 0) (by kernel_rfl) rfl rfl ⟨hx198_0, hx199_0, hx200_0⟩ (fun hHeld => ?_); refine with_tabW hortatorlaw9_DemandRun.tab24 hortatorlaw9_DemandRun.bits24 (fun HT_ HW_ => ?_)
                         generalize wc.drew = w131 at HO_0 HO_6 HO_7 HO_8 HB hx198_0 hx199_0 hx200_0 hHeld ⊢
                         refine pureA_ (i := 0) (N := some 108) (bs 20 1) HT_ ?_
                         refine pureA_ (i := 1) (N := some 109) (bs 20 3) HT_ ?_
                         refine pureA_ (i := 2) (N := some 110) (bs 20 7) HT_ ?_
                         refine takeA_ (i := 3) (N := some 111) (bs 20 15) HT_ HW_ hHeld ?_
                         refine pureA_ (i := 4) (N := some 112) (bs 20 31) HT_ ?_
                         refine pureA_ (i := 5) (N := some 113) (bs 20 63) HT_ ?_
                         refine pureA_ (i := 6) (N := some 114) (bs 20 127) HT_ ?_
                         refine pureA_ (i := 7) (N := some 115) (bs 20 255) HT_ ?_
                         refine pureA_ (i := 8) (N := some 116) (bs 20 511) HT_ ?_
                         refine pureA_ (i := 9) (N := some 117) (bs 20 1023) HT_ ?_
                         refine pureA_ (i := 10) (N := some 118) (bs 20 2047) HT_ ?_
                         refine pureA_ (i := 11) (N := some 119) (bs 20 4095) HT_ ?_
                         refine pureA_ (i := 13) (N := some 121) (bs 20 12287) HT_ ?_
                         refine pureA_ (i := 14) (N := some 122) (bs 20 28671) HT_ ?_
                         refine pureA_ (i := 15) (N := some 123) (bs 20 61439) HT_ ?_
                         refine takeA_ (i := 12) (N := some 120) (bs 20 65535) HT_ HW_ hHeld ?_
                         refine takeA_ (i := 16) (N := some 124) (bs 20 131071) HT_ HW_ hHeld ?_
                         refine pureA_ (i := 17) (N := some 125) (bs 20 262143) HT_ ?_
                         refine pureA_ (i := 18) (N := some 126) (bs 20 524287) HT_ ?_
                         refine pureA_ (i := 19) (N := some 127) (bs 20 1048575) HT_ ?_
                         refine done_ (done_of HT_.out (by kernel_rfl)) ?_
                         try go_wp2
                         go_roundg kj32
                         case measure => have := HK1.out; have := HK2.out; have := HJ23.out; have := HJ32.out; omega
                         case rel => exact ⟨(x6_2), (x7_2), (x8_2), (x9_2), (x11_2), (wrap64 (x12_2 + 1)), (by (rfl)), (by (rfl)), (by (rfl)), H', ⟨by have := HK1.out; have := HK2.out; have := HJ23.out; have := HJ32.out; omega⟩, ⟨HO_0.out⟩, ⟨HO_6.out⟩, ⟨HO_7.out⟩, ⟨HO_8.out⟩, ⟨HB.out⟩⟩
                       ·rw [if_neg c126] at H
                        exact absurd H (by simp)
                      ·rw [if_neg c125] at H
                       exact absurd H (by simp)
                     ·rw [if_neg c124] at H
                      exact absurd H (by simp)
                   ·rw [if_neg c120] at H
                    have c120b0 : decide (0 < (rd x7_2 x12_2)) = false := decide_eq_false c120
                    clear c120
                    have H' := Aside0.mk H
                    clear H
                    try go_wp2
                    replace HO_0 := Aside0.mk (Kd.R_drew HO_0.out)
                    replace HO_6 := Aside0.mk (Kd.R_drew HO_6.out)
                    replace HO_7 := Aside0.mk (Kd.R_drew HO_7.out)
                    replace HO_8 := Aside0.mk (Kd.R_drew HO_8.out)
                    replace HB := Aside0.mk (below_drew1 HB.out)
                    obtain ⟨Ao135, co135, eo135⟩ := Kd.R_slice HO_7.out
                    ((subst eo135))
                    have p198 : 0 ≤ (x12_2 : Int) := of_decide_eq_true (by (with_reducible assumption))
                    have q198 : x12_2 < (x7_2.length : Int) := of_decide_eq_true (by (with_reducible assumption))
                    obtain ⟨ad198, e198, hx198_0⟩ := Kd.at_int (Kd.R_reads' HO_7.out).2.2 x12_2 p198 q198
                    cases e198
                    replace p198 := eq_true p198
                    replace q198 := eq_true q198
                    refine start_ (n := 20) (S := fun w' => w'.cell? (ad198.add (x12_2).toNat) = some (.int .i64 (rd x7_2 x12_2))) (ds := []) (bs 20 0) (by kernel_rfl) rfl rfl (hx198_0) (fun hHeld => ?_); refine with_tabW hortatorlaw9_DemandRun.tab24 hortatorlaw9_DemandRun.bits24 (fun HT_ HW_ => ?_)
                    generalize wc.drew = w134 at HO_0 HO_6 HO_7 HO_8 HB hx198_0 hHeld ⊢
                    refine pureA_ (i := 0) (N := some 108) (bs 20 1) HT_ ?_
                    refine pureA_ (i := 1) (N := some 109) (bs 20 3) HT_ ?_
                    refine pureA_ (i := 2) (N := some 110) (bs 20 7) HT_ ?_
                    refine take_ (i := 3) (N := some 111) (v := ?_) (a' := ?_) (bs 20 15) rfl rfl (take_ofW HT_.out HW_.out (by kernel_rfl)) (fun _ _ _ h => h) (Or.inl ⟨by rfl, ?_⟩) hHeld ?_ ?_
                    rotate_left
                    ·intro w' s0
                     go_simp
                     with_reducible rfl
                    rotate_left
                    ·simp only [Act.put, List.setIfInBounds_toArray, List.set_cons_zero, List.set_cons_succ, i64_w, i32_w]
                     rfl
                    refine pureA_ (i := 4) (N := some 112) (bs 20 31) HT_ ?_
                    refine pureA_ (i := 5) (N := some 113) (bs 20 63) HT_ ?_
                    refine pureB_ (i := 6) (N := some 114) (bs 20 127) HT_ ?_
                    refine pureB_ (i := 7) (N := some 115) (bs 20 255) HT_ ?_
                    refine pureB_ (i := 8) (N := some 116) (bs 20 511) HT_ ?_
                    refine pureB_ (i := 9) (N := some 117) (bs 20 1023) HT_ ?_
                    refine pureB_ (i := 10) (N := some 118) (bs 20 2047) HT_ ?_
                    refine pureB_ (i := 11) (N := some 119) (bs 20 4095) HT_ ?_
                    refine pureB_ (i := 12) (N := some 120) (bs 20 8191) HT_ ?_
                    refine pureB_ (i := 13) (N := some 121) (bs 20 16383) HT_ ?_
                    refine pureB_ (i := 14) (N := some 122) (bs 20 32767) HT_ ?_
                    refine pureB_ (i := 15) (N := some 123) (bs 20 65535) HT_ ?_
                    refine pureB_ (i := 16) (N := some 124) (bs 20 131071) HT_ ?_
                    refine pureB_ (i := 17) (N := some 125) (bs 20 262143) HT_ ?_
                    refine pureB_ (i := 18) (N := some 126) (bs 20 524287) HT_ ?_
                    refine pureA_ (i := 19) (N := some 127) (bs 20 1048575) HT_ ?_
                    refine done_ (done_of HT_.out (by kernel_rfl)) ?_
                    try go_wp2
                    go_roundg kj32
                    case measure => have := HK1.out; have := HK2.out; have := HJ23.out; have := HJ32.out; omega
                    case rel => exact ⟨(x6_2), (x7_2), (x8_2), (x9_2), (x11_2), (wrap64 (x12_2 + 1)), (by (rfl)), (by (rfl)), (by (rfl)), H', ⟨by have := HK1.out; have := HK2.out; have := HJ23.out; have := HJ32.out; omega⟩, ⟨HO_0.out⟩, ⟨HO_6.out⟩, ⟨HO_7.out⟩, ⟨HO_8.out⟩, ⟨HB.out⟩⟩
                  ·rw [if_neg c119] at H
                   exact absurd H (by simp)
                 ·rw [if_neg c118] at H
                  exact absurd H (by simp)
          ·rw [if_neg c23] at H
           have c23b0 : decide (x12_2 < (t160.length : Int)) = false := decide_eq_false c23
           clear c23
           by_cases c136 : x11_2 ≥ 0
           ·rw [if_pos c136] at H
            have c136b0 : decide (0 ≤ x11_2) = true := decide_eq_true c136
            clear c136
            by_cases c137 : 0 ≤ x11_2
            ·rw [if_pos c137] at H
             have c137b0 : decide (0 ≤ x11_2) = true := decide_eq_true c137
             clear c137
             by_cases c138 : x11_2 < (x7_2.length : Int)
             ·rw [if_pos c138] at H
              have c138b0 : decide (x11_2 < (x7_2.length : Int)) = true := decide_eq_true c138
              clear c138
              obtain ⟨y174, hy174⟩ : ∃ y_ : List Int, y_ = (x7_2.set (x11_2 : Int).toNat (wrap64 ((rd x7_2 x11_2) - 1))) := ⟨_, rfl⟩
              replace H : (hortatorlaw9_DemandRun.l0 k2 t160 l1 x6_2 y174 x8_2 x9_2 (wrap64 (x10_1 + 1))) = some r := by (rw [hy174]; with_reducible exact H)
              have Ny174 := Aside0.mk hy174
              clear hy174
              have H' := Aside0.mk H
              clear H
              obtain ⟨Ao140, co140, eo140⟩ := Kd.R_slice HO_7.out
              subst eo140
              have p173 : 0 ≤ (x11_2 : Int) := of_decide_eq_true (by (with_reducible assumption))
              have q173 : x11_2 < (x7_2.length : Int) := of_decide_eq_true (by (with_reducible assumption))
              obtain ⟨ad173, e173, hx173_0⟩ := Kd.at_int (Kd.R_reads' HO_7.out).2.2 x11_2 p173 q173
              cases e173
              replace p173 := eq_true p173
              replace q173 := eq_true q173
              have p139 : 0 ≤ (x11_2 : Int) := of_decide_eq_true (by (with_reducible assumption))
              have q139 : (x11_2 : Int) < ((x7_2.length : Int) : Int) := of_decide_eq_true (by (with_reducible assumption))
              obtain ⟨go139, co139, eo139, gb139, gl139, cl139, HG139⟩ := Kd.R_form HO_7.out (by omega)
              ((cases eo139))
              have GB139 := Aside0.mk gb139
              have GG139 := Aside0.mk HG139
              clear gb139 gl139 HG139
              ((skip))
              (try simp only [Nat.zero_add] at hx173_0)
              obtain ⟨hx139_0, hf139_0⟩ := Kd.R_celln 0 HO_7.out (x11_2 : Int) p139 q139
              replace p139 := eq_true p139
              replace q139 := eq_true q139
              have HP141 := Kd.R_putg HO_7.out (x11_2 : Int) (wrap64 ((rd x7_2 x11_2) - 1))
              go_wp2_with (((with_reducible refine gate_store (t := 2) (p := 136) rfl ?_); refine store_event (t := 2) (p := 136) (v := ?vo_w142) (w1 := (wr.setCell ⟨go139, (x11_2 : Int).toNat, none⟩ (.int .i64 (wrap64 ((rd x7_2 x11_2) - 1))))) ?hg ?ho ?hn ?hr ?_; (case ho => rfl); (case hg => rfl); (case hn => rfl); (case hr => (go_simp; rfl)); intro w142 hw; have hg : wr.grownBy w142 (some go139) := (by rw [hw]; exact HP141.2); have hp_ : Kd.R (Kd.int .i64) 2 w142 w.heap.size (fun k_ => some k_ ≠ (v165 : Value).ownBlock ∧ some k_ ≠ (v171 : Value).ownBlock) (.slice (some ⟨go139, 0, none⟩) x7_2.length co140) y174 := (by rw [hw, Ny174.out]; exact HP141.1); clear HP141; replace HO_0 := Aside0.mk (Kd.R_over' (v := (.slice (some ⟨go139, 0, none⟩) x7_2.length co140)) HO_0.out (Kd.R_typed HO_7.out) (by decide) hg); replace HO_6 := Aside0.mk (Kd.R_after (v := (.slice (some ⟨go139, 0, none⟩) x7_2.length co140)) (v1 := (.slice (some ⟨go139, 0, none⟩) x7_2.length co140)) (ok := (fun k_ => some k_ ≠ (v171 : Value).ownBlock)) (by exact Kd.R_mono HO_6.out (fun _ hk => ⟨hk.2, hk.1⟩)) hg (.inl rfl)); replace HO_7 := Aside0.mk (hp_); replace HO_8 := Aside0.mk (Kd.R_after (v := (.slice (some ⟨go139, 0, none⟩) x7_2.length co140)) (v1 := (.slice (some ⟨go139, 0, none⟩) x7_2.length co140)) (ok := (fun k_ => some k_ ≠ (v165 : Value).ownBlock)) HO_8.out hg (.inl rfl)); replace HB := Aside0.mk ((by rw [hw]; exact below_set (HB.out) GB139.out : Below w.heap.size w w142)); clear hg hw hp_))
              go_roundg k2
              case measure => have := HK1.out; have := HK2.out; omega
              case rel => exact ⟨(x6_2), (y174), (x8_2), (x9_2), (wrap64 (x10_1 + 1)), (by (rfl)), (by (rfl)), H', ⟨by have := HK1.out; have := HK2.out; omega⟩, ⟨HO_0.out⟩, ⟨by exact Kd.R_mono HO_6.out (fun _ hk => ⟨hk.2, hk.1⟩)⟩, ⟨HO_7.out⟩, ⟨HO_8.out⟩, ⟨HB.out⟩⟩
             ·rw [if_neg c138] at H
              exact absurd H (by simp)
            ·rw [if_neg c137] at H
             exact absurd H (by simp)
           ·rw [if_neg c136] at H
            have c136b0 : decide (0 ≤ x11_2) = false := decide_eq_false c136
            clear c136
            have H' := Aside0.mk H
            clear H
            go_wp2
            go_roundg k2
            case measure => have := HK1.out; have := HK2.out; omega
            case rel => exact ⟨(x6_2), (x7_2), (x8_2), (x9_2), (wrap64 (x10_1 + 1)), (by (rfl)), (by (rfl)), H', ⟨by have := HK1.out; have := HK2.out; omega⟩, ⟨HO_0.out⟩, ⟨HO_6.out⟩, ⟨HO_7.out⟩, ⟨HO_8.out⟩, ⟨HB.out⟩⟩
       ·rw [if_neg c22] at H
        have c22b0 : decide (x10_1 < 600) = false := decide_eq_false c22
        clear c22
        obtain rfl := Option.some.inj H
        go_wp2
        go_ret
        exact ⟨by (rfl), by repeat ((with_reducible (exact HB.out)))⟩
    ·rw [if_neg c9] at H
     exact absurd H (by simp)
   ·rw [if_neg c8] at H
    exact absurd H (by simp)
  ·replace c7 := Bool.eq_false_iff.mpr c7
   subst c7
   have H1 : (some true) = some r := by rw [if_neg (show ¬ (false = true) by decide)] at H; exact H
   clear H
   have H := H1
   clear H1
   obtain rfl := Option.some.inj H
   go_enter Tryz.func7, Tryz.ntmps7
   go_wp2_with (first | ((with_reducible refine gate_callee (f := 23) rfl ?_); refine goesL_ (some 14) rfl rfl Tryz.func23 (by kernel_rfl) rfl #[] rfl (by (try simp only [List.map_toArray, List.map_cons, List.map_nil]); (done)) ?_; (with_reducible refine (hortatorlaw9_begun.calls k  true _ A3.out).mono ?_); rintro e w143 ⟨rfl, hb⟩; refine ⟨_, rfl, ?_⟩; replace HB := Aside0.mk (below_step HB.out hb); (try clear hb); (try clear hb2); (try clear hk); (try clear hi)) | ((with_reducible refine gate_callee (f := 24) rfl ?_); refine goesL_ (some 18) rfl rfl Tryz.func24 (by kernel_rfl) rfl #[.slice A0 l0.length c0] rfl (by (try simp only [List.map_toArray, List.map_cons, List.map_nil]); (rfl)) ?_; (with_reducible refine (hortatorlaw9_Loads.calls _ _ l0 t160 _ ?side1 ?side2 A5.out).mono ?_); (case side1 => repeat ((exact (Kd.C_below HR0.out HB.out)))); (case side2 => exact HC0.out); rintro e w144 ⟨v161, rfl, ho0, hb⟩; refine ⟨_, rfl, ?_⟩; have HO162 := Aside0.mk (Kd.R_lower ho0 (below_size HB.out)); replace HB := Aside0.mk (below_step HB.out hb); (try clear hb); (try clear hb2); (try clear hk); (try clear hi); (try clear ho0); obtain ⟨Ao145, co145, eo145⟩ := Kd.R_slice HO162.out; subst eo145) | ((with_reducible refine gate_callee (f := 34) rfl ?_); refine goesL_ (some 20) rfl rfl Tryz.func34 (by kernel_rfl) rfl #[.slice Ao145 t160.length co145] rfl (by (try simp only [List.map_toArray, List.map_cons, List.map_nil]); (rfl)) ?_; (with_reducible refine (demand_Fits.calls k _ _ t160 false _ ?side1 ?side2 A6.out).mono ?_); (case side1 => repeat ((exact (Kd.R_reads' HO162.out).2.2))); (case side2 => exact (Kd.R_reads' HO162.out).2.1); rintro e w146 ⟨rfl, hb⟩; refine ⟨_, rfl, ?_⟩; replace HO162 := Aside0.mk (Kd.R_below HO162.out hb); replace HB := Aside0.mk (below_step HB.out hb); (try clear hb); (try clear hb2); (try clear hk); (try clear hi)))
   go_ret
   exact ⟨by (rfl), by repeat ((with_reducible (exact HB.out)))⟩
 ·replace c4 := Bool.eq_false_iff.mpr c4
  subst c4
  have H1 : (none) = some r := by rw [if_neg (show ¬ (false = true) by decide)] at H; exact H
  clear H
  have H := H1
  clear H1
  exact absurd H (by simp)

end Go.Proofs.YtddepomgaeadpaaGreatDoor.PAll
