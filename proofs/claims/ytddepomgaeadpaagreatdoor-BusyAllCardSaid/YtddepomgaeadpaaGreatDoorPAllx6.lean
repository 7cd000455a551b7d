-- Written by a program of this session (wip/pp.py) over the kit's print, with hand-proved contracts beside it.
import Derived.Test.YtddepomgaeadpaaGreatDoorPAllx0
import Derived.Test.YtddepomgaeadpaaGreatDoorPAllx1
import Derived.Test.YtddepomgaeadpaaGreatDoorPAllx4
import Derived.Test.YtddepomgaeadpaaGreatDoorPAllx5
namespace Go.Proofs.YtddepomgaeadpaaGreatDoor.PAll
open Go.Shelf Go.Lib Go.RowKit Go.Proofs.YtddepomgaeadpaaGreatDoorW.PrintWords Go.Proofs.YtddepomgaeadpaaGreatDoorW.PrintLast Go.Proofs.YtddepomgaeadpaaGreatDoorW.PrintMore
attribute [local go_sem] max2_int min2_int max_two min_two max_three min_three max_four min_four   -- for this text's walks alone
set_option linter.unusedVariables false
set_option linter.unusedSimpArgs false

/-! ### hortatorlaw9_BusyAll: function 3 -/
def hortatorlaw9_BusyAll.f (k : Nat) (l0 : List (S31)) (a1 : Int) : Option (Bool) := (hortatorlaw9_begun.f k).bind fun t171 => (if t171 = true then ((hortatorlaw9_Loads.f l0).bind fun t172 => ((busy_Time.f k t172).bind fun bt175 => ((hortatorref7_Time.f k t172).bind fun bt177 => ((busy_Asked.f k t172 a1).bind fun t179 => ((hortatorref7_Asked.f k t172 a1).bind fun t180 => (if t179 = t180 then (if bt175.1 = bt177.1 then (some (bt175.2 == bt177.2)) else (none)) else (none))))))) else (none))
set_option maxHeartbeats 8000000 in
set_option maxRecDepth 100000 in
theorem hortatorlaw9_BusyAll.calls (k : Nat) (A0 : Option Addr) (c0 : Nat) (l0 : List (S31)) (a1 : Int) (r : Bool) (w : World) (hr0 : Kd.C k31 w A0 l0.length l0) (hc0 : l0.length ≤ c0) (h : hortatorlaw9_BusyAll.f k l0 a1 = some r) :
  Calls Tryz.prog 3 #[.slice A0 l0.length c0, .int .i64 a1] w fun e w' => e = .returned (.bool r) ∧ Below w.heap.size w w' := by
 have HR0 := Aside0.mk hr0
 have HC0 := Aside0.mk hc0
 clear hr0 hc0
 have HB := Aside0.mk (Below.refl w.heap.size w)
 have H : ((hortatorlaw9_begun.f k).bind fun t171 => (if t171 = true then ((hortatorlaw9_Loads.f l0).bind fun t172 => ((busy_Time.f k t172).bind fun bt175 => ((hortatorref7_Time.f k t172).bind fun bt177 => ((busy_Asked.f k t172 a1).bind fun t179 => ((hortatorref7_Asked.f k t172 a1).bind fun t180 => (if t179 = t180 then (if bt175.1 = bt177.1 then (some (bt175.2 == bt177.2)) else (none)) else (none))))))) else (none))) = some r := h
 clear h
 replace H := Option.bind_eq_some_iff.mp H
 obtain ⟨t171, A30, H⟩ := H
 have A3 := Aside0.mk A30
 clear A30
 by_cases c4 : t171 = true
 ·subst c4
  have H1 : ((hortatorlaw9_Loads.f l0).bind fun t172 => ((busy_Time.f k t172).bind fun bt175 => ((hortatorref7_Time.f k t172).bind fun bt177 => ((busy_Asked.f k t172 a1).bind fun t179 => ((hortatorref7_Asked.f k t172 a1).bind fun t180 => (if t179 = t180 then (if bt175.1 = bt177.1 then (some (bt175.2 == bt177.2)) else (none)) else (none))))))) = some r := by rw [if_pos rfl] at H; exact H
  clear H
  have H := H1
  clear H1
  replace H := Option.bind_eq_some_iff.mp H
  obtain ⟨t172, A50, H⟩ := H
  have A5 := Aside0.mk A50
  clear A50
  replace H := Option.bind_eq_some_iff.mp H
  obtain ⟨⟨t175, t176⟩, A60, H⟩ := H
  have A6 := Aside0.mk A60
  clear A60
  replace H := Option.bind_eq_some_iff.mp H
  obtain ⟨⟨t177, t178⟩, A70, H⟩ := H
  have A7 := Aside0.mk A70
  clear A70
  replace H := Option.bind_eq_some_iff.mp H
  obtain ⟨t179, A80, H⟩ := H
  have A8 := Aside0.mk A80
  clear A80
  replace H := Option.bind_eq_some_iff.mp H
  obtain ⟨t180, A90, H⟩ := H
  have A9 := Aside0.mk A90
  clear A90
  by_cases c10 : t179 = t180
  ·rw [if_pos c10] at H
   have c10b0 : (t179 == t180) = true := beq_iff_eq.mpr c10
   have c10b1 : (t179 != t180) = false := bne_eq_false_iff_eq.mpr c10
   clear c10
   by_cases c11 : t175 = t177
   ·rw [if_pos c11] at H
    have c11b0 : (t175 == t177) = true := beq_iff_eq.mpr c11
    have c11b1 : (t175 != t177) = false := bne_eq_false_iff_eq.mpr c11
    clear c11
    obtain rfl := Option.some.inj H
    go_enter Tryz.func3, Tryz.ntmps3
    go_wp2_with (first | ((with_reducible refine gate_callee (f := 23) rfl ?_); refine goesL_ (some 10) rfl rfl Tryz.func23 (by kernel_rfl) rfl #[] rfl (by (try simp only [List.map_toArray, List.map_cons, List.map_nil]); (done)) ?_; (with_reducible refine (hortatorlaw9_begun.calls k  true _ A3.out).mono ?_); rintro e w12 ⟨rfl, hb⟩; refine ⟨_, rfl, ?_⟩; have n0_ := Aside0.mk (below_step (by repeat ((with_reducible (exact HB.out)))) hb); clear HB; have HB := n0_; clear n0_; (try clear hb); (try clear hb2); (try clear hk); (try clear hi)) | ((with_reducible refine gate_callee (f := 24) rfl ?_); refine goesL_ (some 14) rfl rfl Tryz.func24 (by kernel_rfl) rfl #[.slice A0 l0.length c0] rfl (by (try simp only [List.map_toArray, List.map_cons, List.map_nil]); (rfl)) ?_; (with_reducible refine (hortatorlaw9_Loads.calls _ _ l0 t172 _ ?side1 ?side2 A5.out).mono ?_); (case side1 => repeat ((exact (Kd.C_below HR0.out HB.out)))); (case side2 => exact HC0.out); rintro e w13 ⟨v173, rfl, ho0, hb⟩; refine ⟨_, rfl, ?_⟩; have n0_ := Aside0.mk (Kd.R_lower ho0 (below_size (by repeat ((with_reducible (exact HB.out)))))); have n1_ := Aside0.mk (below_step (by repeat ((with_reducible (exact HB.out)))) hb); clear HB; have HO174 := n0_; have HB := n1_; clear n0_ n1_; (try clear hb); (try clear hb2); (try clear hk); (try clear hi); (try clear ho0); obtain ⟨Ao14, co14, eo14⟩ := Kd.R_slice HO174.out; subst eo14) | ((with_reducible refine gate_callee (f := 25) rfl ?_); refine goesL_ (some 17) rfl rfl Tryz.func25 (by kernel_rfl) rfl #[.slice Ao14 t172.length co14] rfl (by (try simp only [List.map_toArray, List.map_cons, List.map_nil]); (rfl)) ?_; (with_reducible refine (busy_Time.calls k _ _ t172 t175 t176 _ ?side1 ?side2 A6.out).mono ?_); (case side1 => repeat ((exact (Kd.R_reads' HO174.out).2.2))); (case side2 => exact (Kd.R_reads' HO174.out).2.1); rintro e w15 ⟨rfl, hb⟩; refine ⟨_, rfl, ?_⟩; have n0_ := Aside0.mk (Kd.R_below (by exact HO174.out) hb); have n1_ := Aside0.mk (below_step (by repeat ((with_reducible (exact HB.out)))) hb); clear HO174; clear HB; have HO174 := n0_; have HB := n1_; clear n0_ n1_; (try clear hb); (try clear hb2); (try clear hk); (try clear hi)) | ((with_reducible refine gate_callee (f := 26) rfl ?_); refine goesL_ (some 22) rfl rfl Tryz.func26 (by kernel_rfl) rfl #[.slice Ao14 t172.length co14] rfl (by (try simp only [List.map_toArray, List.map_cons, List.map_nil]); (rfl)) ?_; (with_reducible refine (hortatorref7_Time.calls k _ _ t172 t177 t178 _ ?side1 ?side2 A7.out).mono ?_); (case side1 => repeat ((exact (Kd.R_reads' HO174.out).2.2))); (case side2 => exact (Kd.R_reads' HO174.out).2.1); rintro e w16 ⟨rfl, hb⟩; refine ⟨_, rfl, ?_⟩; have n0_ := Aside0.mk (Kd.R_below (by exact HO174.out) hb); have n1_ := Aside0.mk (below_step (by repeat ((with_reducible (exact HB.out)))) hb); clear HO174; clear HB; have HO174 := n0_; have HB := n1_; clear n0_ n1_; (try clear hb); (try clear hb2); (try clear hk); (try clear hi)) | ((with_reducible refine gate_callee (f := 27) rfl ?_); refine goesL_ (some 27) rfl rfl Tryz.func27 (by kernel_rfl) rfl #[.slice Ao14 t172.length co14, .int .i64 a1] rfl (by (try simp only [List.map_toArray, List.map_cons, List.map_nil]); (rfl)) ?_; (with_reducible refine (busy_Asked.calls k _ _ t172 a1 t179 _ ?side1 ?side2 A8.out).mono ?_); (case side1 => repeat ((exact (Kd.R_reads' HO174.out).2.2))); (case side2 => exact (Kd.R_reads' HO174.out).2.1); rintro e w17 ⟨rfl, hb⟩; refine ⟨_, rfl, ?_⟩; have n0_ := Aside0.mk (Kd.R_below (by exact HO174.out) hb); have n1_ := Aside0.mk (below_step (by repeat ((with_reducible (exact HB.out)))) hb); clear HO174; clear HB; have HO174 := n0_; have HB := n1_; clear n0_ n1_; (try clear hb); (try clear hb2); (try clear hk); (try clear hi)) | ((with_reducible refine gate_callee (f := 28) rfl ?_); refine goesL_ (some 30) rfl rfl Tryz.func28 (by kernel_rfl) rfl #[.slice Ao14 t172.length co14, .int .i64 a1] rfl (by (try simp only [List.map_toArray, List.map_cons, List.map_nil]); (rfl)) ?_; (with_reducible refine (hortatorref7_Asked.calls k _ _ t172 a1 t180 _ ?side1 ?side2 A9.out).mono ?_); (case side1 => repeat ((exact (Kd.R_reads' HO174.out).2.2))); (case side2 => exact (Kd.R_reads' HO174.out).2.1); rintro e w18 ⟨rfl, hb⟩; refine ⟨_, rfl, ?_⟩; have n0_ := Aside0.mk (Kd.R_below (by exact HO174.out) hb); have n1_ := Aside0.mk (below_step (by repeat ((with_reducible (exact HB.out)))) hb); clear HO174; clear HB; have HO174 := n0_; have HB := n1_; clear n0_ n1_; (try clear hb); (try clear hb2); (try clear hk); (try clear hi)))
    go_ret
    exact ⟨by (rfl), by repeat ((with_reducible (exact HB.out)))⟩
   ·rw [if_neg c11] at H
    exact absurd H (by simp)
  ·rw [if_neg c10] at H
   exact absurd H (by simp)
 ·replace c4 := Bool.eq_false_iff.mpr c4
  subst c4
  have H1 : (none) = some r := by rw [if_neg (show ¬ (false = true) by decide)] at H; exact H
  clear H
  have H := H1
  clear H1
  exact absurd H (by simp)

/-! ### hortatorlaw9_BusyRun: function 4 -/
mutual
def hortatorlaw9_BusyRun.j0 : Nat → List (S31) → Int → Bool → Bool → Option (Bool)
 | 0, _, _, _, _ => none
 | k + 1, x0, x4, x5, x26 => if x26 = true then (if x4 = 0 then ((hortatorref7_Loads.f k x0).bind fun t188 => (some (x5 == t188))) else (none)) else (hortatorlaw9_BusyRun.l0 k x0 x4 x5 0 0)
def hortatorlaw9_BusyRun.l0 : Nat → List (S31) → Int → Bool → Int → Int → Option (Bool)
 | 0, _, _, _, _, _ => none
 | k + 1, x0, x4, x5, x6, x7 => if x7 ≤ 3000 then (if x7 > 0 then (hortatorlaw9_BusyRun.j2 k x0 x4 x5 x6 x7 (x6 == 0)) else (hortatorlaw9_BusyRun.j2 k x0 x4 x5 x6 x7 false)) else (if x5 = true then (some (decide (x4 > 3000))) else (some true))
def hortatorlaw9_BusyRun.j2 : Nat → List (S31) → Int → Bool → Int → Int → Bool → Option (Bool)
 | 0, _, _, _, _, _, _ => none
 | k + 1, x0, x4, x5, x6, x7, x44 => if x44 = true then (if x5 = true then (some (x4 == x7)) else (none)) else (hortatorlaw9_BusyRun.l1 k x0 x4 x5 x6 x7 0)
def hortatorlaw9_BusyRun.l1 : Nat → List (S31) → Int → Bool → Int → Int → Int → Option (Bool)
 | 0, _, _, _, _, _, _ => none
 | k + 1, x0, x4, x5, x6, x7, x8 => if x8 < (x0.length : Int) then (if 0 ≤ x8 then (if ((rd_T31 x0 x8).f2) = 0 then (none) else (if (Int.tmod x7 ((rd_T31 x0 x8).f2)) = 0 then (hortatorlaw9_BusyRun.l1 k x0 x4 x5 (wrap64 (x6 + ((rd_T31 x0 x8).f0))) x7 (wrap64 (x8 + 1))) else (hortatorlaw9_BusyRun.l1 k x0 x4 x5 x6 x7 (wrap64 (x8 + 1))))) else (none)) else (hortatorlaw9_BusyRun.l0 k x0 x4 x5 (wrap64 (x6 - 1)) (wrap64 (x7 + 1)))
end
def hortatorlaw9_BusyRun.f (k : Nat) (l0 : List (S31)) : Option (Bool) := (hortatorlaw9_begun.f k).bind fun t181 => (if t181 = true then ((hortatorlaw9_Loads.f l0).bind fun t182 => ((busy_Time.f k t182).bind fun bt185 => ((hortatorref7_Loads.f k t182).bind fun t187 => (if t187 = true then (hortatorlaw9_BusyRun.j0 k t182 bt185.1 bt185.2 ((t182.length : Int) == 0)) else (hortatorlaw9_BusyRun.j0 k t182 bt185.1 bt185.2 true))))) else (none))
set_option maxHeartbeats 8000000 in
set_option maxRecDepth 100000 in
theorem hortatorlaw9_BusyRun.calls (k : Nat) (A0 : Option Addr) (c0 : Nat) (l0 : List (S31)) (r : Bool) (w : World) (hr0 : Kd.C k31 w A0 l0.length l0) (hc0 : l0.length ≤ c0) (h : hortatorlaw9_BusyRun.f k l0 = some r) :
  Calls Tryz.prog 4 #[.slice A0 l0.length c0] w fun e w' => e = .returned (.bool r) ∧ Below w.heap.size w w' := by
 have HR0 := Aside0.mk hr0
 have HC0 := Aside0.mk hc0
 clear hr0 hc0
 have HB := Aside0.mk (Below.refl w.heap.size w)
 have H : ((hortatorlaw9_begun.f k).bind fun t181 => (if t181 = true then ((hortatorlaw9_Loads.f l0).bind fun t182 => ((busy_Time.f k t182).bind fun bt185 => ((hortatorref7_Loads.f k t182).bind fun t187 => (if t187 = true then (hortatorlaw9_BusyRun.j0 k t182 bt185.1 bt185.2 ((t182.length : Int) == 0)) else (hortatorlaw9_BusyRun.j0 k t182 bt185.1 bt185.2 true))))) else (none))) = some r := h
 clear h
 replace H := Option.bind_eq_some_iff.mp H
 obtain ⟨t181, A20, H⟩ := H
 have A2 := Aside0.mk A20
 clear A20
 by_cases c3 : t181 = true
 ·subst c3
  have H1 : ((hortatorlaw9_Loads.f l0).bind fun t182 => ((busy_Time.f k t182).bind fun bt185 => ((hortatorref7_Loads.f k t182).bind fun t187 => (if t187 = true then (hortatorlaw9_BusyRun.j0 k t182 bt185.1 bt185.2 ((t182.length : Int) == 0)) else (hortatorlaw9_BusyRun.j0 k t182 bt185.1 bt185.2 true))))) = some r := by rw [if_pos rfl] at H; exact H
  clear H
  have H := H1
  clear H1
  replace H := Option.bind_eq_some_iff.mp H
  obtain ⟨t182, A40, H⟩ := H
  have A4 := Aside0.mk A40
  clear A40
  replace H := Option.bind_eq_some_iff.mp H
  obtain ⟨⟨t185, t186⟩, A50, H⟩ := H
  have A5 := Aside0.mk A50
  clear A50
  have HC6 := Aside0.mk H
  clear H
  go_enter Tryz.func4, Tryz.ntmps4
  go_upto_region 6 with (first | ((with_reducible refine gate_callee (f := 23) rfl ?_); refine goesL_ (some 9) rfl rfl Tryz.func23 (by kernel_rfl) rfl #[] rfl (by (try simp only [List.map_toArray, List.map_cons, List.map_nil]); (done)) ?_; (with_reducible refine (hortatorlaw9_begun.calls k  true _ A2.out).mono ?_); rintro e w7 ⟨rfl, hb⟩; refine ⟨_, rfl, ?_⟩; have n0_ := Aside0.mk (below_step (by repeat ((with_reducible (exact HB.out)))) hb); clear HB; have HB := n0_; clear n0_; (try clear hb); (try clear hb2); (try clear hk); (try clear hi)) | ((with_reducible refine gate_callee (f := 24) rfl ?_); refine goesL_ (some 13) rfl rfl Tryz.func24 (by kernel_rfl) rfl #[.slice A0 l0.length c0] rfl (by (try simp only [List.map_toArray, List.map_cons, List.map_nil]); (rfl)) ?_; (with_reducible refine (hortatorlaw9_Loads.calls _ _ l0 t182 _ ?side1 ?side2 A4.out).mono ?_); (case side1 => repeat ((exact (Kd.C_below HR0.out HB.out)))); (case side2 => exact HC0.out); rintro e w8 ⟨v183, rfl, ho0, hb⟩; refine ⟨_, rfl, ?_⟩; have n0_ := Aside0.mk (Kd.R_lower ho0 (below_size (by repeat ((with_reducible (exact HB.out)))))); have n1_ := Aside0.mk (below_step (by repeat ((with_reducible (exact HB.out)))) hb); clear HB; have HO184 := n0_; have HB := n1_; clear n0_ n1_; (try clear hb); (try clear hb2); (try clear hk); (try clear hi); (try clear ho0); obtain ⟨Ao9, co9, eo9⟩ := Kd.R_slice HO184.out; subst eo9) | ((with_reducible refine gate_callee (f := 25) rfl ?_); refine goesL_ (some 16) rfl rfl Tryz.func25 (by kernel_rfl) rfl #[.slice Ao9 t182.length co9] rfl (by (try simp only [List.map_toArray, List.map_cons, List.map_nil]); (rfl)) ?_; (with_reducible refine (busy_Time.calls k _ _ t182 t185 t186 _ ?side1 ?side2 A5.out).mono ?_); (case side1 => repeat ((exact (Kd.R_reads' HO184.out).2.2))); (case side2 => exact (Kd.R_reads' HO184.out).2.1); rintro e w10 ⟨rfl, hb⟩; refine ⟨_, rfl, ?_⟩; have n0_ := Aside0.mk (Kd.R_below (by exact HO184.out) hb); have n1_ := Aside0.mk (below_step (by repeat ((with_reducible (exact HB.out)))) hb); clear HO184; clear HB; have HO184 := n0_; have HB := n1_; clear n0_ n1_; (try clear hb); (try clear hb2); (try clear hk); (try clear hi)))
  (try simp only [Act.put, List.setIfInBounds_toArray, List.set_cons_zero, List.set_cons_succ])
  go_cut [26] (fun v26 wc => ∃ (kq : Nat) (x26_5 : Bool), v26 = .bool x26_5 ∧ Aside0 (hortatorlaw9_BusyRun.j0 kq t182 t185 t186 x26_5 = some r) ∧ Aside0 (kq ≤ k) ∧ Aside0 (Kd.R k31 31 wc w.heap.size (fun _ => True) (.slice Ao9 t182.length co9) t182) ∧ Aside0 (Below w.heap.size w wc))
  case first =>
   have H := HC6.out
   clear HC6
   replace H := Option.bind_eq_some_iff.mp H
   obtain ⟨t187, A110, H⟩ := H
   have A11 := Aside0.mk A110
   clear A110
   by_cases c12 : t187 = true
   ·subst c12
    have H1 : (hortatorlaw9_BusyRun.j0 k t182 t185 t186 ((t182.length : Int) == 0)) = some r := by rw [if_pos rfl] at H; exact H
    clear H
    have H := H1
    clear H1
    have H' := Aside0.mk H
    clear H
    go_wp2_with (((with_reducible refine gate_callee (f := 29) rfl ?_); refine goesL_ (some 20) rfl rfl Tryz.func29 (by kernel_rfl) rfl #[.slice Ao9 t182.length co9] rfl (by (try simp only [List.map_toArray, List.map_cons, List.map_nil]); (rfl)) ?_; (with_reducible refine (hortatorref7_Loads.calls k _ _ t182 true _ ?side1 ?side2 A11.out).mono ?_); (case side1 => repeat ((exact (Kd.R_reads' HO184.out).2.2))); (case side2 => exact (Kd.R_reads' HO184.out).2.1); rintro e w13 ⟨rfl, hb⟩; refine ⟨_, rfl, ?_⟩; have n0_ := Aside0.mk (Kd.R_below (by exact HO184.out) hb); have n1_ := Aside0.mk (below_step (by repeat ((with_reducible (exact HB.out)))) hb); clear HO184; clear HB; have HO184 := n0_; have HB := n1_; clear n0_ n1_; (try clear hb); (try clear hb2); (try clear hk); (try clear hi)))
    go_meet
    case rel => exact ⟨_, (((t182.length : Int) == 0)), (by (rfl)), H', ⟨by (omega)⟩, ⟨by exact HO184.out⟩, ⟨by repeat ((with_reducible (exact HB.out)))⟩⟩
   ·replace c12 := Bool.eq_false_iff.mpr c12
    subst c12
    have H1 : (hortatorlaw9_BusyRun.j0 k t182 t185 t186 true) = some r := by rw [if_neg (show ¬ (false = true) by decide)] at H; exact H
    clear H
    have H := H1
    clear H1
    have H' := Aside0.mk H
    clear H
    go_wp2_with (((with_reducible refine gate_callee (f := 29) rfl ?_); refine goesL_ (some 20) rfl rfl Tryz.func29 (by kernel_rfl) rfl #[.slice Ao9 t182.length co9] rfl (by (try simp only [List.map_toArray, List.map_cons, List.map_nil]); (rfl)) ?_; (with_reducible refine (hortatorref7_Loads.calls k _ _ t182 false _ ?side1 ?side2 A11.out).mono ?_); (case side1 => repeat ((exact (Kd.R_reads' HO184.out).2.2))); (case side2 => exact (Kd.R_reads' HO184.out).2.1); rintro e w14 ⟨rfl, hb⟩; refine ⟨_, rfl, ?_⟩; have n0_ := Aside0.mk (Kd.R_below (by exact HO184.out) hb); have n1_ := Aside0.mk (below_step (by repeat ((with_reducible (exact HB.out)))) hb); clear HO184; clear HB; have HO184 := n0_; have HB := n1_; clear n0_ n1_; (try clear hb); (try clear hb2); (try clear hk); (try clear hi)))
    go_meet
    case rel => exact ⟨_, (true), (by (rfl)), H', ⟨by (omega)⟩, ⟨by exact HO184.out⟩, ⟨by repeat ((with_reducible (exact HB.out)))⟩⟩
  case rest =>
   clear HC6
   obtain ⟨kq, x26_5, rfl, HA, HJ5, HO_0, HB⟩ := hcut
   cases kq with
   | zero => exact absurd HA.out (by simp [hortatorlaw9_BusyRun.j0])
   | succ kj5 =>
    have H := HA.out
    clear HA
    simp only [hortatorlaw9_BusyRun.j0] at H
    by_cases c15 : x26_5 = true
    ·subst c15
     have H1 : (if t185 = 0 then ((hortatorref7_Loads.f kj5 t182).bind fun t188 => (some (t186 == t188))) else (none)) = some r := by rw [if_pos rfl] at H; exact H
     clear H
     have H := H1
     clear H1
     by_cases c16 : t185 = 0
     ·rw [if_pos c16] at H
      have c16b0 : (t185 == 0) = true := beq_iff_eq.mpr c16
      have c16b1 : (t185 != 0) = false := bne_eq_false_iff_eq.mpr c16
      clear c16
      replace H := Option.bind_eq_some_iff.mp H
      obtain ⟨t188, A170, H⟩ := H
      have A17 := Aside0.mk A170
      clear A170
      obtain rfl := Option.some.inj H
      go_wp2_with ((go_at_call 29; (with_reducible refine (hortatorref7_Loads.calls kj5 _ _ t182 t188 _ ?side1 ?side2 A17.out).mono ?_); (case side1 => repeat ((exact (Kd.R_reads' HO_0.out).2.2))); (case side2 => exact (Kd.R_reads' HO_0.out).2.1); rintro e w18 ⟨rfl, hb⟩; have n0_ := Aside0.mk (Kd.R_below (by exact HO_0.out) hb); have n1_ := Aside0.mk (below_step (by repeat ((with_reducible (exact HB.out)))) hb); clear HO_0; clear HB; have HO_0 := n0_; have HB := n1_; clear n0_ n1_; (try clear hb); (try clear hb2); (try clear hk); (try clear hi)))
      go_ret
      exact ⟨by (rfl), by repeat ((with_reducible (exact HB.out)))⟩
     ·rw [if_neg c16] at H
      exact absurd H (by simp)
    ·replace c15 := Bool.eq_false_iff.mpr c15
     subst c15
     have H1 : (hortatorlaw9_BusyRun.l0 kj5 t182 t185 t186 0 0) = some r := by rw [if_neg (show ¬ (false = true) by decide)] at H; exact H
     clear H
     have H := H1
     clear H1
     have H' := Aside0.mk H
     clear H
     go_wp2
     go_loopg [6, 7] kj5 (fun kq v6 v7 w' => ∃ (x6_2 : Int) (x7_2 : Int), v6 = .int .i64 x6_2 ∧ v7 = .int .i64 x7_2 ∧ Aside0 (hortatorlaw9_BusyRun.l0 kq t182 t185 t186 x6_2 x7_2 = some r) ∧ Aside0 (kq ≤ kj5) ∧ Aside0 (Kd.R k31 31 w' w.heap.size (fun _ => True) (.slice Ao9 t182.length co9) t182) ∧ Aside0 (Below w.heap.size w w'))
     case atStart => exact ⟨(0), (0), (by (rfl)), (by (rfl)), H', ⟨Nat.le_refl _⟩, ⟨by exact HO_0.out⟩, ⟨by repeat ((with_reducible (exact HB.out)))⟩⟩
     case round =>
      clear H'
      obtain ⟨x6_2, x7_2, rfl, rfl, HA, HK2, HO_0, HB⟩ := hrel
      cases gk with
      | zero => exact absurd HA.out (by simp [hortatorlaw9_BusyRun.l0])
      | succ k2 =>
       have H := HA.out
       clear HA
       simp only [hortatorlaw9_BusyRun.l0] at H
       by_cases c19 : x7_2 ≤ 3000
       ·rw [if_pos c19] at H
        have c19b0 : decide (x7_2 ≤ 3000) = true := decide_eq_true c19
        clear c19
        have HC20 := Aside0.mk H
        clear H
        go_upto_region 12 with (fail)
        go_cut [44] (fun v44 wc => ∃ (kq : Nat) (x44_19 : Bool), v44 = .bool x44_19 ∧ Aside0 (hortatorlaw9_BusyRun.j2 kq t182 t185 t186 x6_2 x7_2 x44_19 = some r) ∧ Aside0 (kq ≤ k2) ∧ Aside0 (Kd.R k31 31 wc w.heap.size (fun _ => True) (.slice Ao9 t182.length co9) t182) ∧ Aside0 (Below w.heap.size w wc))
        case first =>
         have H := HC20.out
         clear HC20
         by_cases c21 : x7_2 > 0
         ·rw [if_pos c21] at H
          have c21b0 : decide (0 < x7_2) = true := decide_eq_true c21
          clear c21
          ((skip))
          have H' := Aside0.mk H
          clear H
          go_wp2
          go_meet
          case rel => exact ⟨_, ((x6_2 == 0)), (by (rfl)), H', ⟨by have := HJ5.out; have := HK2.out; (omega)⟩, ⟨by exact HO_0.out⟩, ⟨by repeat ((with_reducible (exact HB.out)))⟩⟩
         ·rw [if_neg c21] at H
          have c21b0 : decide (0 < x7_2) = false := decide_eq_false c21
          clear c21
          ((skip))
          have H' := Aside0.mk H
          clear H
          go_wp2
          go_meet
          case rel => exact ⟨_, (false), (by (rfl)), H', ⟨by have := HJ5.out; have := HK2.out; (omega)⟩, ⟨by exact HO_0.out⟩, ⟨by repeat ((with_reducible (exact HB.out)))⟩⟩
        case rest =>
         clear HC20
         try clear c19b0
         obtain ⟨kq, x44_19, rfl, HA, HJ19, HO_0, HB⟩ := hcut
         cases kq with
         | zero => exact absurd HA.out (by simp [hortatorlaw9_BusyRun.j2])
         | succ kj19 =>
          have H := HA.out
          clear HA
          simp only [hortatorlaw9_BusyRun.j2] at H
          by_cases c22 : x44_19 = true
          ·subst c22
           have H1 : (if t186 = true then (some (t185 == x7_2)) else (none)) = some r := by rw [if_pos rfl] at H; exact H
           clear H
           have H := H1
           clear H1
           by_cases c23 : t186 = true
           ·subst c23
            have H1 : (some (t185 == x7_2)) = some r := by rw [if_pos rfl] at H; exact H
            clear H
            have H := H1
            clear H1
            obtain rfl := Option.some.inj H
            go_wp2
            go_ret
            exact ⟨by (rfl), by repeat ((with_reducible (exact HB.out)))⟩
           ·replace c23 := Bool.eq_false_iff.mpr c23
            subst c23
            have H1 : (none) = some r := by rw [if_neg (show ¬ (false = true) by decide)] at H; exact H
            clear H
            have H := H1
            clear H1
            exact absurd H (by simp)
          ·replace c22 := Bool.eq_false_iff.mpr c22
           subst c22
           have H1 : (hortatorlaw9_BusyRun.l1 kj19 t182 t185 t186 x6_2 x7_2 0) = some r := by rw [if_neg (show ¬ (false = true) by decide)] at H; exact H
           clear H
           have H := H1
           clear H1
           have H' := Aside0.mk H
           clear H
           go_wp2
           go_loopg [6, 8] kj19 (fun kq v6 v8 w' => ∃ (x6_4 : Int) (x8_4 : Int), v6 = .int .i64 x6_4 ∧ v8 = .int .i64 x8_4 ∧ Aside0 (hortatorlaw9_BusyRun.l1 kq t182 t185 t186 x6_4 x7_2 x8_4 = some r) ∧ Aside0 (kq ≤ kj19) ∧ Aside0 (Kd.R k31 31 w' w.heap.size (fun _ => True) (.slice Ao9 t182.length co9) t182) ∧ Aside0 (Below w.heap.size w w'))
           case atStart => exact ⟨(x6_2), (0), (by (rfl)), (by (rfl)), H', ⟨Nat.le_refl _⟩, ⟨by exact HO_0.out⟩, ⟨by repeat ((with_reducible (exact HB.out)))⟩⟩
           case round =>
            clear H'
            obtain ⟨x6_4, x8_4, rfl, rfl, HA, HK4, HO_0, HB⟩ := hrel
            cases gk with
            | zero => exact absurd HA.out (by simp [hortatorlaw9_BusyRun.l1])
            | succ k4 =>
             have H := HA.out
             clear HA
             simp only [hortatorlaw9_BusyRun.l1] at H
             by_cases c24 : x8_4 < (t182.length : Int)
             ·rw [if_pos c24] at H
              have c24b0 : decide (x8_4 < (t182.length : Int)) = true := decide_eq_true c24
              clear c24
              by_cases c25 : 0 ≤ x8_4
              ·rw [if_pos c25] at H
               have c25b0 : decide (0 ≤ x8_4) = true := decide_eq_true c25
               clear c25
               by_cases c26 : ((rd_T31 t182 x8_4).f2) = 0
               ·rw [if_pos c26] at H
                exact absurd H (by simp)
               ·rw [if_neg c26] at H
                have c26b0 : (((rd_T31 t182 x8_4).f2) == 0) = false := beq_eq_false_iff_ne.mpr c26
                have c26b1 : (((rd_T31 t182 x8_4).f2) != 0) = true := bne_iff_ne.mpr c26
                by_cases c27 : (Int.tmod x7_2 ((rd_T31 t182 x8_4).f2)) = 0
                ·rw [if_pos c27] at H
                 have c27b0 : ((Int.tmod x7_2 ((rd_T31 t182 x8_4).f2)) == 0) = true := beq_iff_eq.mpr c27
                 have c27b1 : ((Int.tmod x7_2 ((rd_T31 t182 x8_4).f2)) != 0) = false := bne_eq_false_iff_eq.mpr c27
                 clear c27
                 have H' := Aside0.mk H
                 clear H
                 have p189 : 0 ≤ (x8_4 : Int) := of_decide_eq_true (by (with_reducible assumption))
                 have q189 : x8_4 < (t182.length : Int) := of_decide_eq_true (by (with_reducible assumption))
                 obtain ⟨ad189, e189, hx189_0, hx189_1, hx189_2⟩ := at_T31 (Kd.R_reads' HO_0.out).2.2 x8_4 p189 q189
                 cases e189
                 replace p189 := eq_true p189
                 replace q189 := eq_true q189
                 have p190 : 0 ≤ (x8_4 : Int) := of_decide_eq_true (by (with_reducible assumption))
                 have q190 : x8_4 < (t182.length : Int) := of_decide_eq_true (by (with_reducible assumption))
                 obtain ⟨ad190, e190, hx190_0, hx190_1, hx190_2⟩ := at_T31 (Kd.R_reads' HO_0.out).2.2 x8_4 p190 q190
                 obtain rfl : ad189 = ad190 := (by injection e190)
                 replace p190 := eq_true p190
                 replace q190 := eq_true q190
                 go_wp2
                 go_roundg k4
                 case measure => have := HJ5.out; have := HK2.out; have := HJ19.out; have := HK4.out; omega
                 case rel => exact ⟨(wrap64 (x6_4 + ((rd_T31 t182 x8_4).f0))), (wrap64 (x8_4 + 1)), (by (rfl)), (by (rfl)), H', ⟨by have := HJ5.out; have := HK2.out; have := HJ19.out; have := HK4.out; omega⟩, ⟨by exact HO_0.out⟩, ⟨by repeat ((with_reducible (exact HB.out)))⟩⟩
                ·rw [if_neg c27] at H
                 have c27b0 : ((Int.tmod x7_2 ((rd_T31 t182 x8_4).f2)) == 0) = false := beq_eq_false_iff_ne.mpr c27
                 have c27b1 : ((Int.tmod x7_2 ((rd_T31 t182 x8_4).f2)) != 0) = true := bne_iff_ne.mpr c27
                 have H' := Aside0.mk H
                 clear H
                 have p189 : 0 ≤ (x8_4 : Int) := of_decide_eq_true (by (with_reducible assumption))
                 have q189 : x8_4 < (t182.length : Int) := of_decide_eq_true (by (with_reducible assumption))
                 obtain ⟨ad189, e189, hx189_0, hx189_1, hx189_2⟩ := at_T31 (Kd.R_reads' HO_0.out).2.2 x8_4 p189 q189
                 cases e189
                 replace p189 := eq_true p189
                 replace q189 := eq_true q189
                 go_wp2
                 go_roundg k4
                 case measure => have := HJ5.out; have := HK2.out; have := HJ19.out; have := HK4.out; omega
                 case rel => exact ⟨(x6_4), (wrap64 (x8_4 + 1)), (by (rfl)), (by (rfl)), H', ⟨by have := HJ5.out; have := HK2.out; have := HJ19.out; have := HK4.out; omega⟩, ⟨by exact HO_0.out⟩, ⟨by repeat ((with_reducible (exact HB.out)))⟩⟩
              ·rw [if_neg c25] at H
               exact absurd H (by simp)
             ·rw [if_neg c24] at H
              have c24b0 : decide (x8_4 < (t182.length : Int)) = false := decide_eq_false c24
              clear c24
              have H' := Aside0.mk H
              clear H
              go_wp2
              go_roundg k4
              case measure => have := HJ5.out; have := HK2.out; have := HJ19.out; have := HK4.out; omega
              case rel => exact ⟨(wrap64 (x6_4 - 1)), (wrap64 (x7_2 + 1)), (by (rfl)), (by (rfl)), H', ⟨by have := HJ5.out; have := HK2.out; have := HJ19.out; have := HK4.out; omega⟩, ⟨by exact HO_0.out⟩, ⟨by repeat ((with_reducible (exact HB.out)))⟩⟩
       ·rw [if_neg c19] at H
        have c19b0 : decide (x7_2 ≤ 3000) = false := decide_eq_false c19
        clear c19
        by_cases c28 : t186 = true
        ·subst c28
         have H1 : (some (decide (t185 > 3000))) = some r := by rw [if_pos rfl] at H; exact H
         clear H
         have H := H1
         clear H1
         obtain rfl := Option.some.inj H
         go_wp2
         go_ret
         exact ⟨by (rfl), by repeat ((with_reducible (exact HB.out)))⟩
        ·replace c28 := Bool.eq_false_iff.mpr c28
         subst c28
         have H1 : (some true) = some r := by rw [if_neg (show ¬ (false = true) by decide)] at H; exact H
         clear H
         have H := H1
         clear H1
         obtain rfl := Option.some.inj H
         go_wp2
         go_ret
         exact ⟨by (rfl), by repeat ((with_reducible (exact HB.out)))⟩
 ·replace c3 := Bool.eq_false_iff.mpr c3
  subst c3
  have H1 : (none) = some r := by rw [if_neg (show ¬ (false = true) by decide)] at H; exact H
  clear H
  have H := H1
  clear H1
  exact absurd H (by simp)

end Go.Proofs.YtddepomgaeadpaaGreatDoor.PAll
