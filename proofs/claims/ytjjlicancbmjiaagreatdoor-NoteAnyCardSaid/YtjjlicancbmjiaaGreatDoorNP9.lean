-- Written by a program of this session (wip/pp.py) over the kit's print, with hand-proved contracts beside it.
import Derived.Test.YtjjlicancbmjiaaGreatDoorPBegx0
import Derived.Test.YtjjlicancbmjiaaGreatDoorPBegx1
import Derived.Test.YtjjlicancbmjiaaGreatDoorPBegx3
import Derived.Test.YtjjlicancbmjiaaGreatDoorPBegx5
import Derived.Test.YtjjlicancbmjiaaGreatDoorPBegx13
import Derived.Test.YtjjlicancbmjiaaGreatDoorPBegx14
import Derived.Test.YtjjlicancbmjiaaGreatDoorWn
import Derived.Test.YtjjlicancbmjiaaGreatDoorL2a
import Derived.Test.YtjjlicancbmjiaaGreatDoorL3
import Derived.Test.YtjjlicancbmjiaaGreatDoorL6
import Derived.Test.YtjjlicancbmjiaaGreatDoorPNegx4
import Derived.Test.YtjjlicancbmjiaaGreatDoorPNegx6
import Derived.Test.YtjjlicancbmjiaaGreatDoorPNegx8
import Derived.Test.YtjjlicancbmjiaaGreatDoorPNegx10
import Derived.Test.YtjjlicancbmjiaaGreatDoorNB
import Derived.Test.YtjjlicancbmjiaaGreatDoorNN6
import Derived.Test.YtjjlicancbmjiaaGreatDoorNN7
import Derived.Test.YtjjlicancbmjiaaGreatDoorNN8
import Derived.Test.YtjjlicancbmjiaaGreatDoorNP13
import Derived.Test.YtjjlicancbmjiaaGreatDoorNAny
namespace Go.Proofs.YtjjlicancbmjiaaGreatDoor.PNeg
open Go.Proofs.YtjjlicancbmjiaaGreatDoor.PBeg
open Go.RowKit Go.Proofs.YtjjlicancbmjiaaGreatDoorW.PrintWords Go.Proofs.YtjjlicancbmjiaaGreatDoorW.PrintLast Go.Proofs.YtjjlicancbmjiaaGreatDoorW.PrintMore
attribute [local go_sem] max2_int min2_int max_two min_two max_three min_three max_four min_four   -- for this text's walks alone
set_option linter.unusedVariables false
set_option linter.unusedSimpArgs false

/-! ### hortatorlaw7_NoteAny: function 6 -/
mutual
def hortatorlaw7_NoteAny.j0 : Nat → ByteArray → Int → Int → Int → Int → Int → Int → List Int → Int → Int → Int → List (S43) → Option (Bool)
 | 0, _, _, _, _, _, _, _, _, _, _, _, _ => none
 | k + 1, x0, x3, x4, x291000, x291001, x291002, x291003, x291004, x292000, x292001, x292002, x292003 => (hortatorlaw7_tells.f k x291000 x291001 x291002 x291003 x291004 x0).bind fun t307 => (if t307 = true then ((note_PutConfig.f k x291000 x291001 x291002 x291003 x291004).bind fun t308 => ((note_PutTask.f k x292000 x292001 x292002 x292003).bind fun t309 => ((some (([t308, t309] : List ByteArray) : List ByteArray)).bind fun y310 => (hortatorlaw7_NoteAny.l0 k x0 x3 x4 y310 (y310.length : Int) 0 x291000 x291001 x291002 x291003 x291004)))) else (none))
def hortatorlaw7_NoteAny.l0 : Nat → ByteArray → Int → Int → List ByteArray → Int → Int → Int → Int → Int → Int → List Int → Option (Bool)
 | 0, _, _, _, _, _, _, _, _, _, _, _ => none
 | k + 1, x0, x3, x4, x39, x40, x41, x291000, x291001, x291002, x291003, x291004 => if x41 < x40 then (if 0 ≤ x41 then (if x41 < (x39.length : Int) then (if (rdOf ByteArray.empty x39 x41).toList = ([] : List UInt8) then (hortatorlaw7_NoteAny.j2 k x0 x3 x4 (rdOf ByteArray.empty x39 x41) x39 x40 x41 true x291000 x291001 x291002 x291003 x291004) else (hortatorlaw7_NoteAny.j2 k x0 x3 x4 (rdOf ByteArray.empty x39 x41) x39 x40 x41 (decide (x3 < 0)) x291000 x291001 x291002 x291003 x291004)) else (none)) else (none)) else (some true)
def hortatorlaw7_NoteAny.j2 : Nat → ByteArray → Int → Int → ByteArray → List ByteArray → Int → Int → Bool → Int → Int → Int → Int → List Int → Option (Bool)
 | 0, _, _, _, _, _, _, _, _, _, _, _, _, _ => none
 | k + 1, x0, x3, x4, x13, x39, x40, x41, x50, x291000, x291001, x291002, x291003, x291004 => if x50 = true then (hortatorlaw7_NoteAny.l0 k x0 x3 x4 x39 x40 (wrap64 (x41 + 1)) x291000 x291001 x291002 x291003 x291004) else ((turnB.f x13 x3 x4).bind fun t314 => ((hortatorlaw7_tells.f k x291000 x291001 x291002 x291003 x291004 (strOfNums t314)).bind fun t317 => (if t317 = true then (if (x13.size : Int) = 0 then (none) else (if 0 ≤ (Int.tmod x3 (x13.size : Int)) then (if (Int.tmod x3 (x13.size : Int)) ≤ (x13.size : Int) then ((hortatorlaw7_tells.f k x291000 x291001 x291002 x291003 x291004 (x13.extract 0 ((Int.tmod x3 (x13.size : Int)) : Int).toNat)).bind fun t318 => (if t318 = true then (if x13.size + x0.size ≤ 9223372036854775807 then ((hortatorlaw7_tells.f k x291000 x291001 x291002 x291003 x291004 (x13 ++ x0)).bind fun t319 => (if t319 = true then (hortatorlaw7_NoteAny.l0 k x0 x3 x4 x39 x40 (wrap64 (x41 + 1)) x291000 x291001 x291002 x291003 x291004) else (none))) else (none)) else (none))) else (none)) else (none))) else (none))))
end
def hortatorlaw7_NoteAny.f (k : Nat) (a0 : ByteArray) (a1_0 : Int) (a1_1 : Int) (a1_2 : Int) (a1_3 : Int) (l1_4 : List Int) (a2_0 : Int) (a2_1 : Int) (a2_2 : Int) (l2_3 : List (S43)) (a3 : Int) (a4 : Int) : Option (Bool) := (begun7.f).bind fun t292 => (if t292 = true then (if 0 ≤ (mn (a0.size : Int) 60) then (if (mn (a0.size : Int) 60) ≤ (a0.size : Int) then ((hortatorlaw7_Config.f a1_0 a1_1 a1_2 a1_3 l1_4).bind fun bt293 => ((hortatorlaw7_Task.f a2_0 a2_1 a2_2 l2_3).bind fun bt300 => ((hortatorref7_Config.f k bt293.1 bt293.2.1 bt293.2.2.1 bt293.2.2.2.1 bt293.2.2.2.2).bind fun t306 => (if t306 = true then (hortatorlaw7_NoteAny.j0 k (a0.extract 0 ((mn (a0.size : Int) 60) : Int).toNat) a3 a4 bt293.1 bt293.2.1 bt293.2.2.1 bt293.2.2.2.1 bt293.2.2.2.2 bt300.1 bt300.2.1 bt300.2.2.1 bt300.2.2.2) else (hortatorlaw7_NoteAny.j0 k (a0.extract 0 ((mn (a0.size : Int) 60) : Int).toNat) a3 a4 1 0 0 0 ([] : List Int) bt300.1 bt300.2.1 bt300.2.2.1 bt300.2.2.2))))) else (none)) else (none)) else (none))
def hortatorlaw7_NoteAny.T16 : Bool × List (List Nat × List Nat) := (true, [([], []), ([], []), ([1], [1]), ([0, 2], [0, 2]), ([3], [3]), ([4, 3], [4]), ([5], [5]), ([5], [5]), ([5], [5]), ([5], [5]), ([9, 5], [5, 9]), ([8, 10, 5], [5, 8, 10]), ([7, 11, 5], [5, 7, 11]), ([6, 12, 5, 5], [5, 6, 12]), ([13, 5], [5, 13]), ([5, 14], [5, 14]), ([15, 13], [15]), ([16], [16]), ([16], [16]), ([16], [16]), ([18, 19, 16], [16, 18, 19]), ([17, 20, 16, 16], [16, 17, 20]), ([21, 16], [16, 21]), ([16, 22], [16, 22])])
def hortatorlaw7_NoteAny.B16 : List Nat := [0, 0, 2, 7, 15, 31, 63, 63, 63, 63, 575, 1855, 4031, 8191, 16383, 32767, 65535, 131071, 131071, 131071, 917503, 2097151, 4194303, 8388607]
theorem hortatorlaw7_NoteAny.tab16 : rtab .any (opsOf Tryz.f6 16) = hortatorlaw7_NoteAny.T16 := by kernel_rfl
theorem hortatorlaw7_NoteAny.bits16 : waitsOk hortatorlaw7_NoteAny.T16.2 hortatorlaw7_NoteAny.B16 = true := by kernel_rfl
set_option maxHeartbeats 8000000 in
set_option maxRecDepth 100000 in
theorem hortatorlaw7_NoteAny.calls (k : Nat) (a0 : ByteArray) (a1_0 : Int) (a1_1 : Int) (a1_2 : Int) (a1_3 : Int) (A1_4 : Option Addr) (c1_4 : Nat) (l1_4 : List Int) (a2_0 : Int) (a2_1 : Int) (a2_2 : Int) (A2_3 : Option Addr) (c2_3 : Nat) (l2_3 : List (S43)) (a3 : Int) (a4 : Int) (r : Bool) (w : World) (hr1_4 : Kd.C (Kd.int .i64) w A1_4 l1_4.length l1_4) (hc1_4 : l1_4.length ≤ c1_4) (hr2_3 : Kd.C k43 w A2_3 l2_3.length l2_3) (hc2_3 : l2_3.length ≤ c2_3) (hL : LW w) (h : hortatorlaw7_NoteAny.f k a0 a1_0 a1_1 a1_2 a1_3 l1_4 a2_0 a2_1 a2_2 l2_3 a3 a4 = some r) :
  Calls Tryz.prog 6 #[.string a0, .agg #[.int .i64 a1_0, .int .i64 a1_1, .int .i64 a1_2, .int .i64 a1_3, .slice A1_4 l1_4.length c1_4], .agg #[.int .i64 a2_0, .int .i64 a2_1, .int .i64 a2_2, .slice A2_3 l2_3.length c2_3], .int .i64 a3, .int .u8 a4] w fun e w' => e = .returned (.bool r) ∧ Below w.heap.size w w' := by
 have hu24 := Tryz.underlying24
 have hu27 := Tryz.underlying27
 have HR1_4 := Aside0.mk hr1_4
 have HC1_4 := Aside0.mk hc1_4
 clear hr1_4 hc1_4
 have HR2_3 := Aside0.mk hr2_3
 have HC2_3 := Aside0.mk hc2_3
 clear hr2_3 hc2_3
 have HB := Aside0.mk (Below.refl w.heap.size w)
 have HL := Aside0.mk hL
 clear hL
 have H : ((begun7.f).bind fun t292 => (if t292 = true then (if 0 ≤ (mn (a0.size : Int) 60) then (if (mn (a0.size : Int) 60) ≤ (a0.size : Int) then ((hortatorlaw7_Config.f a1_0 a1_1 a1_2 a1_3 l1_4).bind fun bt293 => ((hortatorlaw7_Task.f a2_0 a2_1 a2_2 l2_3).bind fun bt300 => ((hortatorref7_Config.f k bt293.1 bt293.2.1 bt293.2.2.1 bt293.2.2.2.1 bt293.2.2.2.2).bind fun t306 => (if t306 = true then (hortatorlaw7_NoteAny.j0 k (a0.extract 0 ((mn (a0.size : Int) 60) : Int).toNat) a3 a4 bt293.1 bt293.2.1 bt293.2.2.1 bt293.2.2.2.1 bt293.2.2.2.2 bt300.1 bt300.2.1 bt300.2.2.1 bt300.2.2.2) else (hortatorlaw7_NoteAny.j0 k (a0.extract 0 ((mn (a0.size : Int) 60) : Int).toNat) a3 a4 1 0 0 0 ([] : List Int) bt300.1 bt300.2.1 bt300.2.2.1 bt300.2.2.2))))) else (none)) else (none)) else (none))) = some r := h
 clear h
 replace H := Option.bind_eq_some_iff.mp H
 obtain ⟨t292, A60, H⟩ := H
 have A6 := Aside0.mk A60
 clear A60
 by_cases c7 : t292 = true
 ·subst c7
  have H1 : (if 0 ≤ (mn (a0.size : Int) 60) then (if (mn (a0.size : Int) 60) ≤ (a0.size : Int) then ((hortatorlaw7_Config.f a1_0 a1_1 a1_2 a1_3 l1_4).bind fun bt293 => ((hortatorlaw7_Task.f a2_0 a2_1 a2_2 l2_3).bind fun bt300 => ((hortatorref7_Config.f k bt293.1 bt293.2.1 bt293.2.2.1 bt293.2.2.2.1 bt293.2.2.2.2).bind fun t306 => (if t306 = true then (hortatorlaw7_NoteAny.j0 k (a0.extract 0 ((mn (a0.size : Int) 60) : Int).toNat) a3 a4 bt293.1 bt293.2.1 bt293.2.2.1 bt293.2.2.2.1 bt293.2.2.2.2 bt300.1 bt300.2.1 bt300.2.2.1 bt300.2.2.2) else (hortatorlaw7_NoteAny.j0 k (a0.extract 0 ((mn (a0.size : Int) 60) : Int).toNat) a3 a4 1 0 0 0 ([] : List Int) bt300.1 bt300.2.1 bt300.2.2.1 bt300.2.2.2))))) else (none)) else (none)) = some r := by rw [if_pos rfl] at H; exact H
  clear H
  have H := H1
  clear H1
  obtain ⟨ji8, hji8⟩ : ∃ j_ : Int, (mn (a0.size : Int) 60) = j_ := ⟨_, rfl⟩
  replace H : (if 0 ≤ (ji8) then (if (ji8) ≤ (a0.size : Int) then ((hortatorlaw7_Config.f a1_0 a1_1 a1_2 a1_3 l1_4).bind fun bt293 => ((hortatorlaw7_Task.f a2_0 a2_1 a2_2 l2_3).bind fun bt300 => ((hortatorref7_Config.f k bt293.1 bt293.2.1 bt293.2.2.1 bt293.2.2.2.1 bt293.2.2.2.2).bind fun t306 => (if t306 = true then (hortatorlaw7_NoteAny.j0 k (a0.extract 0 ((ji8) : Int).toNat) a3 a4 bt293.1 bt293.2.1 bt293.2.2.1 bt293.2.2.2.1 bt293.2.2.2.2 bt300.1 bt300.2.1 bt300.2.2.1 bt300.2.2.2) else (hortatorlaw7_NoteAny.j0 k (a0.extract 0 ((ji8) : Int).toNat) a3 a4 1 0 0 0 ([] : List Int) bt300.1 bt300.2.1 bt300.2.2.1 bt300.2.2.2))))) else (none)) else (none)) = some r := by (rw [hji8] at H; exact H)
  (try rw [hji8] at A6)
  (try (have hji8h : ji8 ≤ 60 := by (rw [← hji8]; unfold mn; (repeat' split) <;> omega)))
  (try (have hji8g : ji8 ≤ 64 := by omega))
  (try (have hji8l : 0 ≤ ji8 := by (rw [← hji8]; unfold mn; (repeat' split) <;> omega)))
  (try (have hji8m : 0 ≤ ji8 := by omega))
  have hji8_ : (if 60 < (a0.size : Int) then 60 else (a0.size : Int)) = ji8 := hji8
  by_cases c9 : 0 ≤ (ji8)
  ·rw [if_pos c9] at H
   have c9b0 := eq_true c9
   have c9b1 : decide (0 ≤ (ji8)) = true := decide_eq_true c9
   clear c9
   by_cases c10 : (ji8) ≤ (a0.size : Int)
   ·rw [if_pos c10] at H
    have c10b0 := eq_true c10
    have c10b1 : decide ((ji8) ≤ (a0.size : Int)) = true := decide_eq_true c10
    clear c10
    replace H := Option.bind_eq_some_iff.mp H
    obtain ⟨⟨t293, t294, t295, t296, t297⟩, A110, H⟩ := H
    have A11 := Aside0.mk A110
    clear A110
    replace H := Option.bind_eq_some_iff.mp H
    obtain ⟨⟨t300, t301, t302, t303⟩, A120, H⟩ := H
    have A12 := Aside0.mk A120
    clear A120
    replace H := Option.bind_eq_some_iff.mp H
    obtain ⟨t306, A130, H⟩ := H
    have A13 := Aside0.mk A130
    clear A130
    have HC14 := Aside0.mk H
    clear H
    go_enter Tryz.func6, Tryz.ntmps6
    try go_wp2_with (first | ((with_reducible refine gate_dst (N := 6) rfl ?_); (try (refine gate_guard (by rfl) ?_; dsimp only)); refine box_event ?hg (N := 6) ?hd (cs := #[.int .i64 a1_0, .int .i64 a1_1, .int .i64 a1_2, .int .i64 a1_3, .slice A1_4 l1_4.length c1_4]) (t := 24) ?hr ?_; (case hd => rfl); (case hg => rfl); (case hr => (go_simp; done)); intro gb290 hg w15 hbox hb; have BK290 := Aside0.mk (hbox); have GW290 := Aside0.mk ((by rw [hg]; exact below_size HB.out : w.heap.size ≤ gb290)); have GE290 := Aside0.mk ((by rw [hg]; exact below_size HB.out : w.heap.size ≤ gb290)); replace HB := Aside0.mk (below_step HB.out hb); clear hb hbox hg) | ((with_reducible refine gate_dst (N := 7) rfl ?_); (try (refine gate_guard (by rfl) ?_; dsimp only)); refine box_event ?hg (N := 7) ?hd (cs := #[.int .i64 a2_0, .int .i64 a2_1, .int .i64 a2_2, .slice A2_3 l2_3.length c2_3]) (t := 27) ?hr ?_; (case hd => rfl); (case hg => rfl); (case hr => (go_simp; done)); intro gb291 hg w16 hbox hb; have BK291 := Aside0.mk (hbox); have GW291 := Aside0.mk ((by rw [hg]; exact below_size HB.out : w.heap.size ≤ gb291)); have GE291 := Aside0.mk ((by rw [hg]; exact below_size HB.out : w.heap.size ≤ gb291)); have NB290_291 := Aside0.mk ((by rw [hg]; exact Nat.ne_of_lt (blk_lt BK290.out) : gb290 ≠ gb291)); have NB291_290 := Aside0.mk ((by rw [hg]; exact Nat.ne_of_gt (blk_lt BK290.out) : gb291 ≠ gb290)); replace BK290 := Aside0.mk (blk_below BK290.out hb); replace HB := Aside0.mk (below_step HB.out hb); clear hb hbox hg) | ((with_reducible refine gate_callee (f := 13) rfl ?_); refine goesL_ (some 15) rfl rfl Tryz.func13 (by kernel_rfl) rfl #[] rfl (by (try simp only [List.map_toArray, List.map_cons, List.map_nil]); (done)) ?_; (with_reducible refine (begun7.calls  true _ (HL.out.below HB.out) A6.out).mono ?_); rintro e w17 ⟨rfl, hb⟩; refine ⟨_, rfl, ?_⟩; replace BK290 := Aside0.mk (blk_below BK290.out hb); replace BK291 := Aside0.mk (blk_below BK291.out hb); replace HB := Aside0.mk (below_step HB.out hb); (try clear hb); (try clear hb2); (try clear hk); (try clear hi)))
    replace BK290 := Aside0.mk (blk_drew BK290.out)
    replace BK291 := Aside0.mk (blk_drew BK291.out)
    replace HB := Aside0.mk (below_drew1 HB.out)
    refine start_ (n := 6) (S := fun w' => w'.cell? ⟨gb290, 0, none⟩ = some (.int .i64 a1_0) ∧ w'.cell? ⟨gb290, 1, none⟩ = some (.int .i64 a1_1) ∧ w'.cell? ⟨gb290, 2, none⟩ = some (.int .i64 a1_2) ∧ w'.cell? ⟨gb290, 3, none⟩ = some (.int .i64 a1_3) ∧ w'.cell? ⟨gb290, 4, none⟩ = some (.slice A1_4 l1_4.length c1_4) ∧ w'.cell? ⟨gb291, 0, none⟩ = some (.int .i64 a2_0) ∧ w'.cell? ⟨gb291, 1, none⟩ = some (.int .i64 a2_1) ∧ w'.cell? ⟨gb291, 2, none⟩ = some (.int .i64 a2_2) ∧ w'.cell? ⟨gb291, 3, none⟩ = some (.slice A2_3 l2_3.length c2_3)) (ds := [4, 5]) #[false, false, false, false, false, false] (by kernel_rfl) rfl rfl ⟨(blk_cell BK290.out 0).trans rfl, (blk_cell BK290.out 1).trans rfl, (blk_cell BK290.out 2).trans rfl, (blk_cell BK290.out 3).trans rfl, (blk_cell BK290.out 4).trans rfl, (blk_cell BK291.out 0).trans rfl, (blk_cell BK291.out 1).trans rfl, (blk_cell BK291.out 2).trans rfl, (blk_cell BK291.out 3).trans rfl⟩ (fun hHeld => ?_)
    generalize w17.drew = w18 at BK290 BK291 HB hHeld ⊢
    refine take_ (i := 0) (N := some 23) (v := ?_) (a' := ?_) #[true, false, false, false, false, false] rfl rfl (by kernel_rfl) (fun _ _ _ h => h) (Or.inl ⟨by rfl, ?_⟩) hHeld ?_ ?_
    rotate_left
    ·rintro w' ⟨s0, s1, s2, s3, s4, s5, s6, s7, s8⟩
     go_simp
     with_reducible rfl
    rotate_left
    ·simp only [Act.put, List.setIfInBounds_toArray, List.set_cons_zero, List.set_cons_succ, i64_w, i32_w]
     rfl
    refine take_ (i := 2) (N := some 25) (v := ?_) (a' := ?_) #[true, false, true, false, false, false] rfl rfl (by kernel_rfl) (fun _ _ _ h => h) (Or.inl ⟨by rfl, ?_⟩) hHeld ?_ ?_
    rotate_left
    ·rintro w' ⟨s0, s1, s2, s3, s4, s5, s6, s7, s8⟩
     go_simp
     with_reducible rfl
    rotate_left
    ·simp only [Act.put, List.setIfInBounds_toArray, List.set_cons_zero, List.set_cons_succ, i64_w, i32_w]
     rfl
    refine one_ (i := 1) (N := some 24) #[true, true, true, false, false, false] rfl rfl (by kernel_rfl) (by decide) (fun K hK => ?_)
    refine goes_ Tryz.func14 (by kernel_rfl) rfl #[.agg #[.int .i64 a1_0, .int .i64 a1_1, .int .i64 a1_2, .int .i64 a1_3, .slice A1_4 l1_4.length c1_4]] (by rfl) rfl rfl (by (try simp only [List.map_toArray, List.map_cons, List.map_nil]); (rfl)) ?_
    with_reducible refine (hortatorlaw7_Config.calls a1_0 a1_1 a1_2 a1_3 _ _ l1_4 t293 t294 t295 t296 t297 _ ?side1 ?side2 A11.out).mono ?_
    (case side1 => repeat ((exact (Kd.C_below HR1_4.out HB.out))))
    (case side2 => exact HC1_4.out)
    rintro e w19 ⟨v298, rfl, ho0, hb⟩
    refine ⟨_, rfl, ?_⟩
    have HO299 := Aside0.mk (Kd.R_lower ho0 (below_size HB.out))
    replace BK290 := Aside0.mk (blk_below BK290.out hb)
    replace BK291 := Aside0.mk (blk_below BK291.out hb)
    replace HB := Aside0.mk (below_step HB.out hb)
    (try clear hb)
    (try clear hb2)
    (try clear hk)
    (try clear hi)
    (try clear ho0)
    refine hK.out _ _ ⟨(blk_cell BK290.out 0).trans rfl, (blk_cell BK290.out 1).trans rfl, (blk_cell BK290.out 2).trans rfl, (blk_cell BK290.out 3).trans rfl, (blk_cell BK290.out 4).trans rfl, (blk_cell BK291.out 0).trans rfl, (blk_cell BK291.out 1).trans rfl, (blk_cell BK291.out 2).trans rfl, (blk_cell BK291.out 3).trans rfl⟩ (fun hHeld => ?_)
    clear hK K
    refine norm_ (a' := ?_) ?_ ?_
    rotate_left
    ·show Act.put _ (some 24) _ = _
     simp only [Act.put, List.setIfInBounds_toArray, List.set_cons_zero, List.set_cons_succ, i64_w, i32_w]
     rfl
    refine one_ (i := 3) (N := some 26) #[true, true, true, true, false, false] rfl rfl (by kernel_rfl) (by decide) (fun K hK => ?_)
    refine goes_ Tryz.func15 (by kernel_rfl) rfl #[.agg #[.int .i64 a2_0, .int .i64 a2_1, .int .i64 a2_2, .slice A2_3 l2_3.length c2_3]] (by rfl) rfl rfl (by (try simp only [List.map_toArray, List.map_cons, List.map_nil]); (rfl)) ?_
    with_reducible refine (hortatorlaw7_Task.calls a2_0 a2_1 a2_2 _ _ l2_3 t300 t301 t302 t303 _ ?side1 ?side2 A12.out).mono ?_
    (case side1 => repeat ((exact (Kd.C_below HR2_3.out HB.out))))
    (case side2 => exact HC2_3.out)
    rintro e w20 ⟨v304, rfl, ho0, hb⟩
    refine ⟨_, rfl, ?_⟩
    have HO305 := Aside0.mk (Kd.R_lower ho0 (below_size HB.out))
    replace HO299 := Aside0.mk (Kd.R_below HO299.out hb)
    replace BK290 := Aside0.mk (blk_below BK290.out hb)
    replace BK291 := Aside0.mk (blk_below BK291.out hb)
    replace HB := Aside0.mk (below_step HB.out hb)
    (try clear hb)
    (try clear hb2)
    (try clear hk)
    (try clear hi)
    (try clear ho0)
    obtain ⟨Ao25, co25, eo25⟩ := Kd.R_slice HO299.out
    ((subst eo25))
    obtain ⟨Ao30, co30, eo30⟩ := Kd.R_slice HO305.out
    ((subst eo30))
    refine hK.out _ _ ⟨(blk_cell BK290.out 0).trans rfl, (blk_cell BK290.out 1).trans rfl, (blk_cell BK290.out 2).trans rfl, (blk_cell BK290.out 3).trans rfl, (blk_cell BK290.out 4).trans rfl, (blk_cell BK291.out 0).trans rfl, (blk_cell BK291.out 1).trans rfl, (blk_cell BK291.out 2).trans rfl, (blk_cell BK291.out 3).trans rfl⟩ (fun hHeld => ?_)
    clear hK K
    refine norm_ (a' := ?_) ?_ ?_
    rotate_left
    ·show Act.put _ (some 26) _ = _
     simp only [Act.put, List.setIfInBounds_toArray, List.set_cons_zero, List.set_cons_succ, i64_w, i32_w]
     rfl
    refine last_ (i := 4) (N := none) #[true, true, true, true, true, false] rfl rfl (by kernel_rfl) (by decide) (fun K hK => ?_)
    have hs21 : w20.cell? ⟨gb290, 0, none⟩ = some (.int .i64 a1_0) := (blk_cell BK290.out 0).trans rfl
    have hfs21 := blk_frozen BK290.out 0
    have hns21_1 := NB291_290.out
    have hms21_1 := NB290_291.out
    have hs22 : w20.cell? ⟨gb290, 1, none⟩ = some (.int .i64 a1_1) := (blk_cell BK290.out 1).trans rfl
    have hfs22 := blk_frozen BK290.out 1
    have hns22_1 := NB291_290.out
    have hms22_1 := NB290_291.out
    have hs23 : w20.cell? ⟨gb290, 2, none⟩ = some (.int .i64 a1_2) := (blk_cell BK290.out 2).trans rfl
    have hfs23 := blk_frozen BK290.out 2
    have hns23_1 := NB291_290.out
    have hms23_1 := NB290_291.out
    have hs24 : w20.cell? ⟨gb290, 3, none⟩ = some (.int .i64 a1_3) := (blk_cell BK290.out 3).trans rfl
    have hfs24 := blk_frozen BK290.out 3
    have hns24_1 := NB291_290.out
    have hms24_1 := NB290_291.out
    have hs26 : w20.cell? ⟨gb290, 4, none⟩ = some (.slice A1_4 l1_4.length c1_4) := (blk_cell BK290.out 4).trans rfl
    have hfs26 := blk_frozen BK290.out 4
    have hns26_1 := NB291_290.out
    have hms26_1 := NB290_291.out
    refine skip_ (w1 := ?_) (by rfl) rfl ?_ ?_
    rotate_left
    ·go_simp
     rfl
    refine hK.out _ _ ?_
    clear hK K
    refine last_ (i := 5) (N := none) #[true, true, true, true, true, true] rfl rfl (by kernel_rfl) (by decide) (fun K hK => ?_)
    have hs27 : w20.cell? ⟨gb291, 0, none⟩ = some (.int .i64 a2_0) := (blk_cell BK291.out 0).trans rfl
    have hfs27 := blk_frozen BK291.out 0
    have hns27_0 := NB290_291.out
    have hms27_0 := NB291_290.out
    have hs28 : w20.cell? ⟨gb291, 1, none⟩ = some (.int .i64 a2_1) := (blk_cell BK291.out 1).trans rfl
    have hfs28 := blk_frozen BK291.out 1
    have hns28_0 := NB290_291.out
    have hms28_0 := NB291_290.out
    have hs29 : w20.cell? ⟨gb291, 2, none⟩ = some (.int .i64 a2_2) := (blk_cell BK291.out 2).trans rfl
    have hfs29 := blk_frozen BK291.out 2
    have hns29_0 := NB290_291.out
    have hms29_0 := NB291_290.out
    have hs31 : w20.cell? ⟨gb291, 3, none⟩ = some (.slice A2_3 l2_3.length c2_3) := (blk_cell BK291.out 3).trans rfl
    have hfs31 := blk_frozen BK291.out 3
    have hns31_0 := NB290_291.out
    have hms31_0 := NB291_290.out
    refine skip_ (w1 := ?_) (by rfl) rfl ?_ ?_
    rotate_left
    ·go_simp
     rfl
    refine hK.out _ _ ?_
    clear hK K
    refine done_ (by kernel_rfl) ?_
    have hnb32 := NB290_291.out
    have hnc32 := NB291_290.out
    have hcz33_0 : w20.cell? ⟨gb290, 0, none⟩ = some (.int .i64 a1_0) := (blk_cell BK290.out 0).trans rfl
    have hcz33_1 : w20.cell? ⟨gb290, 1, none⟩ = some (.int .i64 a1_1) := (blk_cell BK290.out 1).trans rfl
    have hcz33_2 : w20.cell? ⟨gb290, 2, none⟩ = some (.int .i64 a1_2) := (blk_cell BK290.out 2).trans rfl
    have hcz33_3 : w20.cell? ⟨gb290, 3, none⟩ = some (.int .i64 a1_3) := (blk_cell BK290.out 3).trans rfl
    have hcz33_4 : w20.cell? ⟨gb290, 4, none⟩ = some (.slice A1_4 l1_4.length c1_4) := (blk_cell BK290.out 4).trans rfl
    have hfz33_0 := blk_frozen BK290.out 0
    have hfz33_1 := blk_frozen BK290.out 1
    have hfz33_2 := blk_frozen BK290.out 2
    have hfz33_3 := blk_frozen BK290.out 3
    have hfz33_4 := blk_frozen BK290.out 4
    go_upto_if 29 with (((with_reducible refine gate_callee (f := 17) rfl ?_); refine goesL_ (some 28) rfl rfl Tryz.func17 (by kernel_rfl) rfl #[.agg #[.int .i64 t293, .int .i64 t294, .int .i64 t295, .int .i64 t296, .slice Ao25 t297.length co25]] rfl (by (try simp only [List.map_toArray, List.map_cons, List.map_nil]); (rfl)) ?_; (with_reducible refine (hortatorref7_Config.calls k t293 t294 t295 t296 _ _ t297 t306 _ ?side1 ?side2 A13.out).mono ?_); (case side1 => refine (Kd.R_reads' (e := 3) (base := w.heap.size) (ok := fun k_ => True) (n := t297.length) (c := co25) ?_).2.2; exact (by exact (Kd.R_mono (Kd.R_mono (Kd.R_far (p := ⟨gb291, 3, none⟩) (Kd.R_far (p := ⟨gb291, 2, none⟩) (Kd.R_far (p := ⟨gb291, 1, none⟩) (Kd.R_far (p := ⟨gb291, 0, none⟩) (Kd.R_far (p := ⟨gb290, 4, none⟩) (Kd.R_far (p := ⟨gb290, 3, none⟩) (Kd.R_far (p := ⟨gb290, 2, none⟩) (Kd.R_far (p := ⟨gb290, 1, none⟩) (Kd.R_far (p := ⟨gb290, 0, none⟩) (Kd.R_types (Kd.R_types HO299.out BK290.out (by decide)) BK291.out (by decide)) (fun _ hk => hk.1.2) (.int .i64 t293)) (fun _ hk => hk.1.2) (.int .i64 t294)) (fun _ hk => hk.1.2) (.int .i64 t295)) (fun _ hk => hk.1.2) (.int .i64 t296)) (fun _ hk => hk.1.2) (.slice Ao25 t297.length co25)) (fun _ hk => hk.2) (.int .i64 t300)) (fun _ hk => hk.2) (.int .i64 t301)) (fun _ hk => hk.2) (.int .i64 t302)) (fun _ hk => hk.2) (.slice Ao30 t303.length co30)) (fun _ h_ => h_.1)) (fun _ h_ => h_.1)))); (case side2 => exact (Kd.R_reads' HO299.out).2.1); rintro e w34 ⟨rfl, hb⟩; refine ⟨_, rfl, ?_⟩; replace HO299 := Aside0.mk (Kd.R_below (by exact (Kd.R_mono (Kd.R_mono (Kd.R_far (p := ⟨gb291, 3, none⟩) (Kd.R_far (p := ⟨gb291, 2, none⟩) (Kd.R_far (p := ⟨gb291, 1, none⟩) (Kd.R_far (p := ⟨gb291, 0, none⟩) (Kd.R_far (p := ⟨gb290, 4, none⟩) (Kd.R_far (p := ⟨gb290, 3, none⟩) (Kd.R_far (p := ⟨gb290, 2, none⟩) (Kd.R_far (p := ⟨gb290, 1, none⟩) (Kd.R_far (p := ⟨gb290, 0, none⟩) (Kd.R_types (Kd.R_types HO299.out BK290.out (by decide)) BK291.out (by decide)) (fun _ hk => hk.1.2) (.int .i64 t293)) (fun _ hk => hk.1.2) (.int .i64 t294)) (fun _ hk => hk.1.2) (.int .i64 t295)) (fun _ hk => hk.1.2) (.int .i64 t296)) (fun _ hk => hk.1.2) (.slice Ao25 t297.length co25)) (fun _ hk => hk.2) (.int .i64 t300)) (fun _ hk => hk.2) (.int .i64 t301)) (fun _ hk => hk.2) (.int .i64 t302)) (fun _ hk => hk.2) (.slice Ao30 t303.length co30)) (fun _ h_ => h_.1)) (fun _ h_ => h_.1))) hb); replace HO305 := Aside0.mk (Kd.R_below (by exact (Kd.R_mono (Kd.R_mono (Kd.R_far (p := ⟨gb291, 3, none⟩) (Kd.R_far (p := ⟨gb291, 2, none⟩) (Kd.R_far (p := ⟨gb291, 1, none⟩) (Kd.R_far (p := ⟨gb291, 0, none⟩) (Kd.R_far (p := ⟨gb290, 4, none⟩) (Kd.R_far (p := ⟨gb290, 3, none⟩) (Kd.R_far (p := ⟨gb290, 2, none⟩) (Kd.R_far (p := ⟨gb290, 1, none⟩) (Kd.R_far (p := ⟨gb290, 0, none⟩) (Kd.R_types (Kd.R_types HO305.out BK290.out (by decide)) BK291.out (by decide)) (fun _ hk => hk.1.2) (.int .i64 t293)) (fun _ hk => hk.1.2) (.int .i64 t294)) (fun _ hk => hk.1.2) (.int .i64 t295)) (fun _ hk => hk.1.2) (.int .i64 t296)) (fun _ hk => hk.1.2) (.slice Ao25 t297.length co25)) (fun _ hk => hk.2) (.int .i64 t300)) (fun _ hk => hk.2) (.int .i64 t301)) (fun _ hk => hk.2) (.int .i64 t302)) (fun _ hk => hk.2) (.slice Ao30 t303.length co30)) (fun _ h_ => h_.1)) (fun _ h_ => h_.1))) hb); replace BK290 := Aside0.mk (blk_below (g := gb290) (o := .cells #[.int .i64 t293, .int .i64 t294, .int .i64 t295, .int .i64 t296, .slice Ao25 t297.length co25] 24 (0, 0)) (by refine blk_far ?_ NB290_291.out _; refine blk_far ?_ NB290_291.out _; refine blk_far ?_ NB290_291.out _; refine blk_far ?_ NB290_291.out _; refine blk_put (cs := #[.int .i64 t293, .int .i64 t294, .int .i64 t295, .int .i64 t296, .slice A1_4 l1_4.length c1_4]) ?_ 4 _ rfl; refine blk_put (cs := #[.int .i64 t293, .int .i64 t294, .int .i64 t295, .int .i64 a1_3, .slice A1_4 l1_4.length c1_4]) ?_ 3 _ rfl; refine blk_put (cs := #[.int .i64 t293, .int .i64 t294, .int .i64 a1_2, .int .i64 a1_3, .slice A1_4 l1_4.length c1_4]) ?_ 2 _ rfl; refine blk_put (cs := #[.int .i64 t293, .int .i64 a1_1, .int .i64 a1_2, .int .i64 a1_3, .slice A1_4 l1_4.length c1_4]) ?_ 1 _ rfl; refine blk_put (cs := #[.int .i64 a1_0, .int .i64 a1_1, .int .i64 a1_2, .int .i64 a1_3, .slice A1_4 l1_4.length c1_4]) ?_ 0 _ rfl; exact BK290.out) hb); replace BK291 := Aside0.mk (blk_below (g := gb291) (o := .cells #[.int .i64 t300, .int .i64 t301, .int .i64 t302, .slice Ao30 t303.length co30] 27 (0, 0)) (by refine blk_put (cs := #[.int .i64 t300, .int .i64 t301, .int .i64 t302, .slice A2_3 l2_3.length c2_3]) ?_ 3 _ rfl; refine blk_put (cs := #[.int .i64 t300, .int .i64 t301, .int .i64 a2_2, .slice A2_3 l2_3.length c2_3]) ?_ 2 _ rfl; refine blk_put (cs := #[.int .i64 t300, .int .i64 a2_1, .int .i64 a2_2, .slice A2_3 l2_3.length c2_3]) ?_ 1 _ rfl; refine blk_put (cs := #[.int .i64 a2_0, .int .i64 a2_1, .int .i64 a2_2, .slice A2_3 l2_3.length c2_3]) ?_ 0 _ rfl; refine blk_far ?_ NB291_290.out _; refine blk_far ?_ NB291_290.out _; refine blk_far ?_ NB291_290.out _; refine blk_far ?_ NB291_290.out _; refine blk_far ?_ NB291_290.out _; exact BK291.out) hb); replace HB := Aside0.mk (below_step (by repeat ((with_reducible first | exact HB.out | refine below_set ?_ GE290.out | refine below_set ?_ GE291.out))) hb); (try clear hb); (try clear hb2); (try clear hk); (try clear hi)))
    (try simp only [Act.put, List.setIfInBounds_toArray, List.set_cons_zero, List.set_cons_succ])
    go_cut [] (fun wc => ∃ (kq : Nat) (x291000_13 : Int) (x291001_13 : Int) (x291002_13 : Int) (x291003_13 : Int) (x291004_13 : List Int) (u291004 : Value), Aside0 (hortatorlaw7_NoteAny.j0 kq (a0.extract 0 ((ji8) : Int).toNat) a3 a4 x291000_13 x291001_13 x291002_13 x291003_13 x291004_13 t300 t301 t302 t303 = some r) ∧ Aside0 (kq ≤ k) ∧ Aside0 (Kd.R (Kd.int .i64) 3 wc w.heap.size (fun _ => True) u291004 x291004_13) ∧ Aside0 (Kd.R k43 43 wc w.heap.size (fun _ => True) (.slice Ao30 t303.length co30) t303) ∧ Aside0 (wc.heap[gb290]? = some (.cells #[.int .i64 x291000_13, .int .i64 x291001_13, .int .i64 x291002_13, .int .i64 x291003_13, u291004] 24 (0, 0))) ∧ Aside0 (wc.heap[gb291]? = some (.cells #[.int .i64 t300, .int .i64 t301, .int .i64 t302, (.slice Ao30 t303.length co30)] 27 (0, 0))) ∧ Aside0 (Below w.heap.size w wc))
    case first =>
     have H := HC14.out
     clear HC14
     by_cases c35 : t306 = true
     ·subst c35
      have H1 : (hortatorlaw7_NoteAny.j0 k (a0.extract 0 ((ji8) : Int).toNat) a3 a4 t293 t294 t295 t296 t297 t300 t301 t302 t303) = some r := by rw [if_pos rfl] at H; exact H
      clear H
      have H := H1
      clear H1
      have H' := Aside0.mk H
      clear H
      go_wp2
      go_meet
      case rel => exact ⟨_, (t293), (t294), (t295), (t296), (t297), (.slice Ao25 t297.length co25), H', ⟨by (omega)⟩, ⟨HO299.out⟩, ⟨HO305.out⟩, ⟨BK290.out⟩, ⟨BK291.out⟩, ⟨HB.out⟩⟩
     ·replace c35 := Bool.eq_false_iff.mpr c35
      subst c35
      have H1 : (hortatorlaw7_NoteAny.j0 k (a0.extract 0 ((ji8) : Int).toNat) a3 a4 1 0 0 0 ([] : List Int) t300 t301 t302 t303) = some r := by rw [if_neg (show ¬ (false = true) by decide)] at H; exact H
      clear H
      have H := H1
      clear H1
      have H' := Aside0.mk H
      clear H
      have hnb36 := NB290_291.out
      have hnc36 := NB291_290.out
      have hcz37_0 : w34.cell? ⟨gb290, 0, none⟩ = some (.int .i64 t293) := (blk_cell BK290.out 0).trans rfl
      have hcz37_1 : w34.cell? ⟨gb290, 1, none⟩ = some (.int .i64 t294) := (blk_cell BK290.out 1).trans rfl
      have hcz37_2 : w34.cell? ⟨gb290, 2, none⟩ = some (.int .i64 t295) := (blk_cell BK290.out 2).trans rfl
      have hcz37_3 : w34.cell? ⟨gb290, 3, none⟩ = some (.int .i64 t296) := (blk_cell BK290.out 3).trans rfl
      have hcz37_4 : w34.cell? ⟨gb290, 4, none⟩ = some (.slice Ao25 t297.length co25) := (blk_cell BK290.out 4).trans rfl
      have hfz37_0 := blk_frozen BK290.out 0
      have hfz37_1 := blk_frozen BK290.out 1
      have hfz37_2 := blk_frozen BK290.out 2
      have hfz37_3 := blk_frozen BK290.out 3
      have hfz37_4 := blk_frozen BK290.out 4
      go_wp2
      go_meet
      case rel => exact ⟨_, (1), (0), (0), (0), (([] : List Int)), (.slice none 0 0), H', ⟨by (omega)⟩, ⟨by (exact Kd.R_nil _ _ _ _ _)⟩, ⟨by exact Kd.R_mono (Kd.R_far (p := ⟨gb290, 4, none⟩) (Kd.R_far (p := ⟨gb290, 3, none⟩) (Kd.R_far (p := ⟨gb290, 2, none⟩) (Kd.R_far (p := ⟨gb290, 1, none⟩) (Kd.R_far (p := ⟨gb290, 0, none⟩) (Kd.R_types HO305.out BK290.out (by decide)) (fun _ hk => hk.2) (.int .i64 1)) (fun _ hk => hk.2) (.int .i64 0)) (fun _ hk => hk.2) (.int .i64 0)) (fun _ hk => hk.2) (.int .i64 0)) (fun _ hk => hk.2) (.slice none 0 0)) (fun _ hk => trivial)⟩, ⟨by refine blk_put (cs := #[.int .i64 1, .int .i64 0, .int .i64 0, .int .i64 0, .slice Ao25 t297.length co25]) ?_ 4 _ rfl; refine blk_put (cs := #[.int .i64 1, .int .i64 0, .int .i64 0, .int .i64 t296, .slice Ao25 t297.length co25]) ?_ 3 _ rfl; refine blk_put (cs := #[.int .i64 1, .int .i64 0, .int .i64 t295, .int .i64 t296, .slice Ao25 t297.length co25]) ?_ 2 _ rfl; refine blk_put (cs := #[.int .i64 1, .int .i64 t294, .int .i64 t295, .int .i64 t296, .slice Ao25 t297.length co25]) ?_ 1 _ rfl; refine blk_put (cs := #[.int .i64 t293, .int .i64 t294, .int .i64 t295, .int .i64 t296, .slice Ao25 t297.length co25]) ?_ 0 _ rfl; exact BK290.out⟩, ⟨by refine blk_far ?_ NB291_290.out _; refine blk_far ?_ NB291_290.out _; refine blk_far ?_ NB291_290.out _; refine blk_far ?_ NB291_290.out _; refine blk_far ?_ NB291_290.out _; exact BK291.out⟩, ⟨by repeat ((with_reducible first | exact HB.out | refine below_set ?_ GE290.out))⟩⟩
    case rest =>
     clear HC14
     try clear c9b0
     try clear c9b1
     try clear c10b0
     try clear c10b1
     try clear hcz33_0
     try clear hcz33_1
     try clear hcz33_2
     try clear hcz33_3
     try clear hcz33_4
     try clear hfz33_0
     try clear hfz33_1
     try clear hfz33_2
     try clear hfz33_3
     try clear hfz33_4
     obtain ⟨kq, x291000_13, x291001_13, x291002_13, x291003_13, x291004_13, u291004, HA, HJ13, HO_291004, HO_292003, BK290, BK291, HB⟩ := hcut
     cases kq with
     | zero => exact absurd HA.out (by simp [hortatorlaw7_NoteAny.j0])
     | succ kj13 =>
      have H := HA.out
      clear HA
      simp only [hortatorlaw7_NoteAny.j0] at H
      replace H := Option.bind_eq_some_iff.mp H
      obtain ⟨t307, A380, H⟩ := H
      have A38 := Aside0.mk A380
      clear A380
      by_cases c39 : t307 = true
      ·subst c39
       have H1 : ((note_PutConfig.f kj13 x291000_13 x291001_13 x291002_13 x291003_13 x291004_13).bind fun t308 => ((note_PutTask.f kj13 t300 t301 t302 t303).bind fun t309 => ((some (([t308, t309] : List ByteArray) : List ByteArray)).bind fun y310 => (hortatorlaw7_NoteAny.l0 kj13 (a0.extract 0 ((ji8) : Int).toNat) a3 a4 y310 (y310.length : Int) 0 x291000_13 x291001_13 x291002_13 x291003_13 x291004_13)))) = some r := by rw [if_pos rfl] at H; exact H
       clear H
       have H := H1
       clear H1
       replace H := Option.bind_eq_some_iff.mp H
       obtain ⟨t308, A400, H⟩ := H
       have A40 := Aside0.mk A400
       clear A400
       replace H := Option.bind_eq_some_iff.mp H
       obtain ⟨t309, A410, H⟩ := H
       have A41 := Aside0.mk A410
       clear A410
       obtain ⟨y310, hy310⟩ : ∃ y_ : List ByteArray, y_ = (([t308, t309] : List ByteArray)) := ⟨_, rfl⟩
       replace H : (hortatorlaw7_NoteAny.l0 kj13 (a0.extract 0 ((ji8) : Int).toNat) a3 a4 y310 (y310.length : Int) 0 x291000_13 x291001_13 x291002_13 x291003_13 x291004_13) = some r := by (have H2_ := (Option.bind_some _ _).symm.trans H; rw [hy310]; with_reducible exact H2_)
       have Ny310 := Aside0.mk hy310
       clear hy310
       have H' := Aside0.mk H
       clear H
       have hnb42 := NB290_291.out
       have hnc42 := NB291_290.out
       have hcz43_0 : wc.cell? ⟨gb290, 0, none⟩ = some (.int .i64 x291000_13) := (blk_cell BK290.out 0).trans rfl
       have hcz43_1 : wc.cell? ⟨gb290, 1, none⟩ = some (.int .i64 x291001_13) := (blk_cell BK290.out 1).trans rfl
       have hcz43_2 : wc.cell? ⟨gb290, 2, none⟩ = some (.int .i64 x291002_13) := (blk_cell BK290.out 2).trans rfl
       have hcz43_3 : wc.cell? ⟨gb290, 3, none⟩ = some (.int .i64 x291003_13) := (blk_cell BK290.out 3).trans rfl
       have hcz43_4 : wc.cell? ⟨gb290, 4, none⟩ = some (u291004) := (blk_cell BK290.out 4).trans rfl
       have hfz43_0 := blk_frozen BK290.out 0
       have hfz43_1 := blk_frozen BK290.out 1
       have hfz43_2 := blk_frozen BK290.out 2
       have hfz43_3 := blk_frozen BK290.out 3
       have hfz43_4 := blk_frozen BK290.out 4
       obtain ⟨Ao44, co44, eo44⟩ := Kd.R_slice HO_291004.out
       subst eo44
       try go_wp2_with (((with_reducible refine gate_callee (f := 35) rfl ?_); refine goesL_ (some 33) rfl rfl Tryz.func35 (by kernel_rfl) rfl #[.agg #[.int .i64 x291000_13, .int .i64 x291001_13, .int .i64 x291002_13, .int .i64 x291003_13, .slice Ao44 x291004_13.length co44], .string (a0.extract 0 ((ji8) : Int).toNat)] rfl (by (try simp only [List.map_toArray, List.map_cons, List.map_nil]); (rfl)) ?_; (with_reducible refine (hortatorlaw7_tells.calls kj13 x291000_13 x291001_13 x291002_13 x291003_13 _ _ x291004_13 (a0.extract 0 ((ji8) : Int).toNat) true _ ?side1 ?side2 (HL.out.below HB.out) A38.out).mono ?_); (case side1 => repeat ((exact (Kd.R_reads' HO_291004.out).2.2))); (case side2 => exact (Kd.R_reads' HO_291004.out).2.1); rintro e w45 ⟨rfl, hb⟩; refine ⟨_, rfl, ?_⟩; replace HO_291004 := Aside0.mk (Kd.R_below HO_291004.out hb); replace HO_292003 := Aside0.mk (Kd.R_below HO_292003.out hb); replace BK290 := Aside0.mk (blk_below BK290.out hb); replace BK291 := Aside0.mk (blk_below BK291.out hb); replace HB := Aside0.mk (below_step HB.out hb); (try clear hb); (try clear hb2); (try clear hk); (try clear hi)))
       replace HO_291004 := Aside0.mk (Kd.R_drew HO_291004.out)
       replace HO_292003 := Aside0.mk (Kd.R_drew HO_292003.out)
       replace BK290 := Aside0.mk (blk_drew BK290.out)
       replace BK291 := Aside0.mk (blk_drew BK291.out)
       replace HB := Aside0.mk (below_drew1 HB.out)
       refine start_ (n := 7) (S := fun w' => w'.cell? ⟨gb290, 0, none⟩ = some (.int .i64 x291000_13) ∧ w'.cell? ⟨gb290, 1, none⟩ = some (.int .i64 x291001_13) ∧ w'.cell? ⟨gb290, 2, none⟩ = some (.int .i64 x291002_13) ∧ w'.cell? ⟨gb290, 3, none⟩ = some (.int .i64 x291003_13) ∧ w'.cell? ⟨gb290, 4, none⟩ = some (.slice Ao44 x291004_13.length co44) ∧ w'.cell? ⟨gb291, 0, none⟩ = some (.int .i64 t300) ∧ w'.cell? ⟨gb291, 1, none⟩ = some (.int .i64 t301) ∧ w'.cell? ⟨gb291, 2, none⟩ = some (.int .i64 t302) ∧ w'.cell? ⟨gb291, 3, none⟩ = some (.slice Ao30 t303.length co30)) (ds := []) #[false, false, false, false, false, false, false] (by kernel_rfl) rfl rfl ⟨(blk_cell BK290.out 0).trans rfl, (blk_cell BK290.out 1).trans rfl, (blk_cell BK290.out 2).trans rfl, (blk_cell BK290.out 3).trans rfl, (blk_cell BK290.out 4).trans rfl, (blk_cell BK291.out 0).trans rfl, (blk_cell BK291.out 1).trans rfl, (blk_cell BK291.out 2).trans rfl, (blk_cell BK291.out 3).trans rfl⟩ (fun hHeld => ?_)
       generalize w45.drew = w46 at HO_291004 HO_292003 BK290 BK291 HB hHeld ⊢
       refine pure_ (i := 6) (N := some 41) (v := ?_) (a' := ?_) #[false, false, false, false, false, false, true] rfl rfl (by kernel_rfl) (fun _ _ _ h => h) (Or.inl ⟨by rfl, ?_⟩) ?_ ?_
       rotate_left
       ·intro w'
        go_simp
        with_reducible rfl
       rotate_left
       ·simp only [Act.put, List.setIfInBounds_toArray, List.set_cons_zero, List.set_cons_succ, i64_w, i32_w]
        rfl
       refine take_ (i := 0) (N := some 35) (v := ?_) (a' := ?_) #[true, false, false, false, false, false, true] rfl rfl (by kernel_rfl) (fun _ _ _ h => h) (Or.inl ⟨by rfl, ?_⟩) hHeld ?_ ?_
       rotate_left
       ·rintro w' ⟨s0, s1, s2, s3, s4, s5, s6, s7, s8⟩
        go_simp
        with_reducible rfl
       rotate_left
       ·simp only [Act.put, List.setIfInBounds_toArray, List.set_cons_zero, List.set_cons_succ, i64_w, i32_w]
        rfl
       refine take_ (i := 2) (N := some 37) (v := ?_) (a' := ?_) #[true, false, true, false, false, false, true] rfl rfl (by kernel_rfl) (fun _ _ _ h => h) (Or.inl ⟨by rfl, ?_⟩) hHeld ?_ ?_
       rotate_left
       ·rintro w' ⟨s0, s1, s2, s3, s4, s5, s6, s7, s8⟩
        go_simp
        with_reducible rfl
       rotate_left
       ·simp only [Act.put, List.setIfInBounds_toArray, List.set_cons_zero, List.set_cons_succ, i64_w, i32_w]
        rfl
       refine one_ (i := 1) (N := some 36) #[true, true, true, false, false, false, true] rfl rfl (by kernel_rfl) (by decide) (fun K hK => ?_)
       refine goes_ Tryz.func28 (by kernel_rfl) rfl #[.agg #[.int .i64 x291000_13, .int .i64 x291001_13, .int .i64 x291002_13, .int .i64 x291003_13, .slice Ao44 x291004_13.length co44]] (by rfl) rfl rfl (by (try simp only [List.map_toArray, List.map_cons, List.map_nil]); (rfl)) ?_
       with_reducible refine (note_PutConfig.calls kj13 x291000_13 x291001_13 x291002_13 x291003_13 _ _ x291004_13 t308 _ ?side1 ?side2 (HL.out.below HB.out) A40.out).mono ?_
       (case side1 => repeat ((exact (Kd.R_reads' HO_291004.out).2.2)))
       (case side2 => exact (Kd.R_reads' HO_291004.out).2.1)
       rintro e w47 ⟨rfl, hb⟩
       refine ⟨_, rfl, ?_⟩
       replace HO_291004 := Aside0.mk (Kd.R_below HO_291004.out hb)
       replace HO_292003 := Aside0.mk (Kd.R_below HO_292003.out hb)
       replace BK290 := Aside0.mk (blk_below BK290.out hb)
       replace BK291 := Aside0.mk (blk_below BK291.out hb)
       replace HB := Aside0.mk (below_step HB.out hb)
       (try clear hb)
       (try clear hb2)
       (try clear hk)
       (try clear hi)
       refine hK.out _ _ ⟨(blk_cell BK290.out 0).trans rfl, (blk_cell BK290.out 1).trans rfl, (blk_cell BK290.out 2).trans rfl, (blk_cell BK290.out 3).trans rfl, (blk_cell BK290.out 4).trans rfl, (blk_cell BK291.out 0).trans rfl, (blk_cell BK291.out 1).trans rfl, (blk_cell BK291.out 2).trans rfl, (blk_cell BK291.out 3).trans rfl⟩ (fun hHeld => ?_)
       clear hK K
       refine norm_ (a' := ?_) ?_ ?_
       rotate_left
       ·show Act.put _ (some 36) _ = _
        simp only [Act.put, List.setIfInBounds_toArray, List.set_cons_zero, List.set_cons_succ, i64_w, i32_w]
        rfl
       refine one_ (i := 3) (N := some 38) #[true, true, true, true, false, false, true] rfl rfl (by kernel_rfl) (by decide) (fun K hK => ?_)
       refine goes_ Tryz.func29 (by kernel_rfl) rfl #[.agg #[.int .i64 t300, .int .i64 t301, .int .i64 t302, .slice Ao30 t303.length co30]] (by rfl) rfl rfl (by (try simp only [List.map_toArray, List.map_cons, List.map_nil]); (rfl)) ?_
       with_reducible refine (note_PutTask.calls kj13 t300 t301 t302 _ _ t303 t309 _ ?side1 ?side2 (HL.out.below HB.out) A41.out).mono ?_
       (case side1 => repeat ((exact (Kd.R_reads' HO_292003.out).2.2)))
       (case side2 => exact (Kd.R_reads' HO_292003.out).2.1)
       rintro e w48 ⟨rfl, hb⟩
       refine ⟨_, rfl, ?_⟩
       replace HO_291004 := Aside0.mk (Kd.R_below HO_291004.out hb)
       replace HO_292003 := Aside0.mk (Kd.R_below HO_292003.out hb)
       replace BK290 := Aside0.mk (blk_below BK290.out hb)
       replace BK291 := Aside0.mk (blk_below BK291.out hb)
       replace HB := Aside0.mk (below_step HB.out hb)
       (try clear hb)
       (try clear hb2)
       (try clear hk)
       (try clear hi)
       refine hK.out _ _ ⟨(blk_cell BK290.out 0).trans rfl, (blk_cell BK290.out 1).trans rfl, (blk_cell BK290.out 2).trans rfl, (blk_cell BK290.out 3).trans rfl, (blk_cell BK290.out 4).trans rfl, (blk_cell BK291.out 0).trans rfl, (blk_cell BK291.out 1).trans rfl, (blk_cell BK291.out 2).trans rfl, (blk_cell BK291.out 3).trans rfl⟩ (fun hHeld => ?_)
       clear hK K
       refine norm_ (a' := ?_) ?_ ?_
       rotate_left
       ·show Act.put _ (some 38) _ = _
        simp only [Act.put, List.setIfInBounds_toArray, List.set_cons_zero, List.set_cons_succ, i64_w, i32_w]
        rfl
       refine one_ (i := 4) (N := some 39) #[true, true, true, true, true, false, true] rfl rfl (by kernel_rfl) (by decide) (fun K hK => ?_)
       refine Kd.R_lit_step Kd.string _ 9 ?hg (N := 39) ?hd (xs := ([t308, t309] : List ByteArray)) (inner := [.string t308, .string t309]) (ok := fun _ => True) (okp := fun _ => True) ?hr ?hp (fun _ hk => hk) trivial (Below.refl _ _) (Nat.le_refl _) (by simp) ?_; (case hd => rfl); (case hg => rfl); (case hr => (go_simp; done)); (case hp => exact (Reps.one (show Kd.M Kd.string _ _ _ t308 [.string t308] from rfl) (Reps.one (show Kd.M Kd.string _ _ _ t309 [.string t309] from rfl) (Reps.none _ _))))
       intro v311 w49 ho50 hb hg_ hnew_
       clear hg_ hnew_
       ((rw [← Ny310.out] at ho50))
       have HO312 := Aside0.mk (Kd.R_lower ho50 (below_size HB.out))
       replace HO_291004 := Aside0.mk (Kd.R_below HO_291004.out hb)
       replace HO_292003 := Aside0.mk (Kd.R_below HO_292003.out hb)
       replace BK290 := Aside0.mk (blk_below BK290.out hb)
       replace BK291 := Aside0.mk (blk_below BK291.out hb)
       replace HB := Aside0.mk (below_step HB.out hb)
       clear hb ho50
       obtain ⟨Ao51, co51, eo51⟩ := Kd.R_slice HO312.out
       ((subst eo51))
       refine hK.out _ _ ⟨(blk_cell BK290.out 0).trans rfl, (blk_cell BK290.out 1).trans rfl, (blk_cell BK290.out 2).trans rfl, (blk_cell BK290.out 3).trans rfl, (blk_cell BK290.out 4).trans rfl, (blk_cell BK291.out 0).trans rfl, (blk_cell BK291.out 1).trans rfl, (blk_cell BK291.out 2).trans rfl, (blk_cell BK291.out 3).trans rfl⟩ (fun hHeld => ?_)
       clear hK K
       refine norm_ (a' := ?_) ?_ ?_
       rotate_left
       ·show Act.put _ (some 39) _ = _
        simp only [Act.put, List.setIfInBounds_toArray, List.set_cons_zero, List.set_cons_succ, i64_w, i32_w]
        rfl
       refine pure_ (i := 5) (N := some 40) (v := ?_) (a' := ?_) #[true, true, true, true, true, true, true] rfl rfl (by kernel_rfl) (fun _ _ _ h => h) (Or.inl ⟨by rfl, ?_⟩) ?_ ?_
       rotate_left
       ·intro w'
        go_simp
        with_reducible rfl
       rotate_left
       ·simp only [Act.put, List.setIfInBounds_toArray, List.set_cons_zero, List.set_cons_succ, i64_w, i32_w]
        rfl
       refine done_ (by kernel_rfl) ?_
       try go_wp2
       go_loopg [41] kj13 (fun kq v41 w' => ∃ (x41_2 : Int), v41 = .int .i64 x41_2 ∧ Aside0 (hortatorlaw7_NoteAny.l0 kq (a0.extract 0 ((ji8) : Int).toNat) a3 a4 y310 (y310.length : Int) x41_2 x291000_13 x291001_13 x291002_13 x291003_13 x291004_13 = some r) ∧ Aside0 (kq ≤ kj13) ∧ Aside0 (Kd.R Kd.string 9 w' w.heap.size (fun _ => True) (.slice Ao51 y310.length co51) y310) ∧ Aside0 (Kd.R (Kd.int .i64) 3 w' w.heap.size (fun _ => True) (.slice Ao44 x291004_13.length co44) x291004_13) ∧ Aside0 (Kd.R k43 43 w' w.heap.size (fun _ => True) (.slice Ao30 t303.length co30) t303) ∧ Aside0 (w'.heap[gb290]? = some (.cells #[.int .i64 x291000_13, .int .i64 x291001_13, .int .i64 x291002_13, .int .i64 x291003_13, (.slice Ao44 x291004_13.length co44)] 24 (0, 0))) ∧ Aside0 (w'.heap[gb291]? = some (.cells #[.int .i64 t300, .int .i64 t301, .int .i64 t302, (.slice Ao30 t303.length co30)] 27 (0, 0))) ∧ Aside0 (Below w.heap.size w w'))
       case atStart => exact ⟨(0), (by (rfl)), H', ⟨Nat.le_refl _⟩, ⟨HO312.out⟩, ⟨HO_291004.out⟩, ⟨HO_292003.out⟩, ⟨BK290.out⟩, ⟨BK291.out⟩, ⟨HB.out⟩⟩
       case round =>
        clear H'
        try clear hcz43_0
        try clear hcz43_1
        try clear hcz43_2
        try clear hcz43_3
        try clear hcz43_4
        try clear hfz43_0
        try clear hfz43_1
        try clear hfz43_2
        try clear hfz43_3
        try clear hfz43_4
        obtain ⟨x41_2, rfl, HA, HK2, HO_39, HO_291004, HO_292003, BK290, BK291, HB⟩ := hrel
        cases gk with
        | zero => exact absurd HA.out (by simp [hortatorlaw7_NoteAny.l0])
        | succ k2 =>
         have H := HA.out
         clear HA
         simp only [hortatorlaw7_NoteAny.l0] at H
         by_cases c52 : x41_2 < (y310.length : Int)
         ·rw [if_pos c52] at H
          have c52b0 : decide (x41_2 < (y310.length : Int)) = true := decide_eq_true c52
          clear c52
          by_cases c53 : 0 ≤ x41_2
          ·rw [if_pos c53] at H
           have c53b0 : decide (0 ≤ x41_2) = true := decide_eq_true c53
           clear c53
           by_cases c54 : x41_2 < (y310.length : Int)
           ·rw [if_pos c54] at H
            have c54b0 : decide (x41_2 < (y310.length : Int)) = true := decide_eq_true c54
            clear c54
            have HC55 := Aside0.mk H
            clear H
            have p313 : 0 ≤ (x41_2 : Int) := of_decide_eq_true (by (with_reducible assumption))
            have q313 : x41_2 < (y310.length : Int) := of_decide_eq_true (by (with_reducible assumption))
            obtain ⟨ad313, e313, hx313_0⟩ := Kd.at_string (Kd.R_reads' HO_39.out).2.2 x41_2 p313 q313
            cases e313
            replace p313 := eq_true p313
            replace q313 := eq_true q313
            go_upto_region 13 with (fail)
            go_cut [50] (fun v50 wc => ∃ (kq : Nat) (x50_54 : Bool), v50 = .bool x50_54 ∧ Aside0 (hortatorlaw7_NoteAny.j2 kq (a0.extract 0 ((ji8) : Int).toNat) a3 a4 (rdOf ByteArray.empty y310 x41_2) y310 (y310.length : Int) x41_2 x50_54 x291000_13 x291001_13 x291002_13 x291003_13 x291004_13 = some r) ∧ Aside0 (kq ≤ k2) ∧ Aside0 (Kd.R Kd.string 9 wc w.heap.size (fun _ => True) (.slice (some ad313) y310.length co51) y310) ∧ Aside0 (Kd.R (Kd.int .i64) 3 wc w.heap.size (fun _ => True) (.slice Ao44 x291004_13.length co44) x291004_13) ∧ Aside0 (Kd.R k43 43 wc w.heap.size (fun _ => True) (.slice Ao30 t303.length co30) t303) ∧ Aside0 (wc.heap[gb290]? = some (.cells #[.int .i64 x291000_13, .int .i64 x291001_13, .int .i64 x291002_13, .int .i64 x291003_13, (.slice Ao44 x291004_13.length co44)] 24 (0, 0))) ∧ Aside0 (wc.heap[gb291]? = some (.cells #[.int .i64 t300, .int .i64 t301, .int .i64 t302, (.slice Ao30 t303.length co30)] 27 (0, 0))) ∧ Aside0 (Below w.heap.size w wc))
            case first =>
             have H := HC55.out
             clear HC55
             by_cases c56 : (rdOf ByteArray.empty y310 x41_2).toList = ([] : List UInt8)
             ·rw [if_pos c56] at H
              have c56b0 : ((rdOf ByteArray.empty y310 x41_2).toList == ([] : List UInt8)) = true := beq_iff_eq.mpr c56
              have c56b1 : ((rdOf ByteArray.empty y310 x41_2).toList != ([] : List UInt8)) = false := bne_eq_false_iff_eq.mpr c56
              clear c56
              ((skip))
              have H' := Aside0.mk H
              clear H
              go_wp2
              go_meet
              case rel => exact ⟨_, (true), (by (rfl)), H', ⟨by have := HJ13.out; have := HK2.out; (omega)⟩, ⟨HO_39.out⟩, ⟨HO_291004.out⟩, ⟨HO_292003.out⟩, ⟨BK290.out⟩, ⟨BK291.out⟩, ⟨HB.out⟩⟩
             ·rw [if_neg c56] at H
              have c56b0 : ((rdOf ByteArray.empty y310 x41_2).toList == ([] : List UInt8)) = false := beq_eq_false_iff_ne.mpr c56
              have c56b1 : ((rdOf ByteArray.empty y310 x41_2).toList != ([] : List UInt8)) = true := bne_iff_ne.mpr c56
              ((skip))
              have H' := Aside0.mk H
              clear H
              go_wp2
              go_meet
              case rel => exact ⟨_, (decide (a3 < 0)), (by (rfl)), H', ⟨by have := HJ13.out; have := HK2.out; (omega)⟩, ⟨HO_39.out⟩, ⟨HO_291004.out⟩, ⟨HO_292003.out⟩, ⟨BK290.out⟩, ⟨BK291.out⟩, ⟨HB.out⟩⟩
            case rest =>
             clear HC55
             try clear c52b0
             try clear c53b0
             try clear c54b0
             try clear hx313_0
             try clear p313
             try clear q313
             obtain ⟨kq, x50_54, rfl, HA, HJ54, HO_39, HO_291004, HO_292003, BK290, BK291, HB⟩ := hcut
             cases kq with
             | zero => exact absurd HA.out (by simp [hortatorlaw7_NoteAny.j2])
             | succ kj54 =>
              have H := HA.out
              clear HA
              simp only [hortatorlaw7_NoteAny.j2] at H
              by_cases c57 : x50_54 = true
              ·subst c57
               have H1 : (hortatorlaw7_NoteAny.l0 kj54 (a0.extract 0 ((ji8) : Int).toNat) a3 a4 y310 (y310.length : Int) (wrap64 (x41_2 + 1)) x291000_13 x291001_13 x291002_13 x291003_13 x291004_13) = some r := by rw [if_pos rfl] at H; exact H
               clear H
               have H := H1
               clear H1
               have H' := Aside0.mk H
               clear H
               go_wp2
               go_roundg kj54
               case measure => have := HJ13.out; have := HK2.out; have := HJ54.out; omega
               case rel => exact ⟨(wrap64 (x41_2 + 1)), (by (rfl)), H', ⟨by have := HJ13.out; have := HK2.out; have := HJ54.out; omega⟩, ⟨HO_39.out⟩, ⟨HO_291004.out⟩, ⟨HO_292003.out⟩, ⟨BK290.out⟩, ⟨BK291.out⟩, ⟨HB.out⟩⟩
              ·replace c57 := Bool.eq_false_iff.mpr c57
               subst c57
               have H1 : ((turnB.f (rdOf ByteArray.empty y310 x41_2) a3 a4).bind fun t314 => ((hortatorlaw7_tells.f kj54 x291000_13 x291001_13 x291002_13 x291003_13 x291004_13 (strOfNums t314)).bind fun t317 => (if t317 = true then (if ((rdOf ByteArray.empty y310 x41_2).size : Int) = 0 then (none) else (if 0 ≤ (Int.tmod a3 ((rdOf ByteArray.empty y310 x41_2).size : Int)) then (if (Int.tmod a3 ((rdOf ByteArray.empty y310 x41_2).size : Int)) ≤ ((rdOf ByteArray.empty y310 x41_2).size : Int) then ((hortatorlaw7_tells.f kj54 x291000_13 x291001_13 x291002_13 x291003_13 x291004_13 ((rdOf ByteArray.empty y310 x41_2).extract 0 ((Int.tmod a3 ((rdOf ByteArray.empty y310 x41_2).size : Int)) : Int).toNat)).bind fun t318 => (if t318 = true then (if (rdOf ByteArray.empty y310 x41_2).size + (a0.extract 0 ((ji8) : Int).toNat).size ≤ 9223372036854775807 then ((hortatorlaw7_tells.f kj54 x291000_13 x291001_13 x291002_13 x291003_13 x291004_13 ((rdOf ByteArray.empty y310 x41_2) ++ (a0.extract 0 ((ji8) : Int).toNat))).bind fun t319 => (if t319 = true then (hortatorlaw7_NoteAny.l0 kj54 (a0.extract 0 ((ji8) : Int).toNat) a3 a4 y310 (y310.length : Int) (wrap64 (x41_2 + 1)) x291000_13 x291001_13 x291002_13 x291003_13 x291004_13) else (none))) else (none)) else (none))) else (none)) else (none))) else (none)))) = some r := by rw [if_neg (show ¬ (false = true) by decide)] at H; exact H
               clear H
               have H := H1
               clear H1
               replace H := Option.bind_eq_some_iff.mp H
               obtain ⟨t314, A580, H⟩ := H
               have A58 := Aside0.mk A580
               clear A580
               replace H := Option.bind_eq_some_iff.mp H
               obtain ⟨t317, A590, H⟩ := H
               have A59 := Aside0.mk A590
               clear A590
               by_cases c60 : t317 = true
               ·subst c60
                have H1 : (if ((rdOf ByteArray.empty y310 x41_2).size : Int) = 0 then (none) else (if 0 ≤ (Int.tmod a3 ((rdOf ByteArray.empty y310 x41_2).size : Int)) then (if (Int.tmod a3 ((rdOf ByteArray.empty y310 x41_2).size : Int)) ≤ ((rdOf ByteArray.empty y310 x41_2).size : Int) then ((hortatorlaw7_tells.f kj54 x291000_13 x291001_13 x291002_13 x291003_13 x291004_13 ((rdOf ByteArray.empty y310 x41_2).extract 0 ((Int.tmod a3 ((rdOf ByteArray.empty y310 x41_2).size : Int)) : Int).toNat)).bind fun t318 => (if t318 = true then (if (rdOf ByteArray.empty y310 x41_2).size + (a0.extract 0 ((ji8) : Int).toNat).size ≤ 9223372036854775807 then ((hortatorlaw7_tells.f kj54 x291000_13 x291001_13 x291002_13 x291003_13 x291004_13 ((rdOf ByteArray.empty y310 x41_2) ++ (a0.extract 0 ((ji8) : Int).toNat))).bind fun t319 => (if t319 = true then (hortatorlaw7_NoteAny.l0 kj54 (a0.extract 0 ((ji8) : Int).toNat) a3 a4 y310 (y310.length : Int) (wrap64 (x41_2 + 1)) x291000_13 x291001_13 x291002_13 x291003_13 x291004_13) else (none))) else (none)) else (none))) else (none)) else (none))) = some r := by rw [if_pos rfl] at H; exact H
                clear H
                have H := H1
                clear H1
                by_cases c61 : ((rdOf ByteArray.empty y310 x41_2).size : Int) = 0
                ·rw [if_pos c61] at H
                 exact absurd H (by simp)
                ·rw [if_neg c61] at H
                 have c61b0 : (((rdOf ByteArray.empty y310 x41_2).size : Int) == 0) = false := beq_eq_false_iff_ne.mpr c61
                 have c61b1 : (((rdOf ByteArray.empty y310 x41_2).size : Int) != 0) = true := bne_iff_ne.mpr c61
                 obtain ⟨ji62, hji62⟩ : ∃ j_ : Int, (Int.tmod a3 ((rdOf ByteArray.empty y310 x41_2).size : Int)) = j_ := ⟨_, rfl⟩
                 replace H : (if 0 ≤ (ji62) then (if (ji62) ≤ ((rdOf ByteArray.empty y310 x41_2).size : Int) then ((hortatorlaw7_tells.f kj54 x291000_13 x291001_13 x291002_13 x291003_13 x291004_13 ((rdOf ByteArray.empty y310 x41_2).extract 0 ((ji62) : Int).toNat)).bind fun t318 => (if t318 = true then (if (rdOf ByteArray.empty y310 x41_2).size + (a0.extract 0 ((ji8) : Int).toNat).size ≤ 9223372036854775807 then ((hortatorlaw7_tells.f kj54 x291000_13 x291001_13 x291002_13 x291003_13 x291004_13 ((rdOf ByteArray.empty y310 x41_2) ++ (a0.extract 0 ((ji8) : Int).toNat))).bind fun t319 => (if t319 = true then (hortatorlaw7_NoteAny.l0 kj54 (a0.extract 0 ((ji8) : Int).toNat) a3 a4 y310 (y310.length : Int) (wrap64 (x41_2 + 1)) x291000_13 x291001_13 x291002_13 x291003_13 x291004_13) else (none))) else (none)) else (none))) else (none)) else (none)) = some r := by (rw [hji62] at H; exact H)
                 (try rw [hji62] at A58)
                 (try rw [hji62] at A59)
                 by_cases c63 : 0 ≤ (ji62)
                 ·rw [if_pos c63] at H
                  have c63b0 := eq_true c63
                  have c63b1 : decide (0 ≤ (ji62)) = true := decide_eq_true c63
                  clear c63
                  by_cases c64 : (ji62) ≤ ((rdOf ByteArray.empty y310 x41_2).size : Int)
                  ·rw [if_pos c64] at H
                   have c64b0 := eq_true c64
                   have c64b1 : decide ((ji62) ≤ ((rdOf ByteArray.empty y310 x41_2).size : Int)) = true := decide_eq_true c64
                   clear c64
                   replace H := Option.bind_eq_some_iff.mp H
                   obtain ⟨t318, A650, H⟩ := H
                   have A65 := Aside0.mk A650
                   clear A650
                   by_cases c66 : t318 = true
                   ·subst c66
                    have H1 : (if (rdOf ByteArray.empty y310 x41_2).size + (a0.extract 0 ((ji8) : Int).toNat).size ≤ 9223372036854775807 then ((hortatorlaw7_tells.f kj54 x291000_13 x291001_13 x291002_13 x291003_13 x291004_13 ((rdOf ByteArray.empty y310 x41_2) ++ (a0.extract 0 ((ji8) : Int).toNat))).bind fun t319 => (if t319 = true then (hortatorlaw7_NoteAny.l0 kj54 (a0.extract 0 ((ji8) : Int).toNat) a3 a4 y310 (y310.length : Int) (wrap64 (x41_2 + 1)) x291000_13 x291001_13 x291002_13 x291003_13 x291004_13) else (none))) else (none)) = some r := by rw [if_pos rfl] at H; exact H
                    clear H
                    have H := H1
                    clear H1
                    by_cases c67 : (rdOf ByteArray.empty y310 x41_2).size + (a0.extract 0 ((ji8) : Int).toNat).size ≤ 9223372036854775807
                    ·rw [if_pos c67] at H
                     have c67b0 := eq_true c67
                     have c67b1 : decide ((rdOf ByteArray.empty y310 x41_2).size + (a0.extract 0 ((ji8) : Int).toNat).size ≤ 9223372036854775807) = true := decide_eq_true c67
                     try have c67b2 : (9223372036854775807 < (rdOf ByteArray.empty y310 x41_2).size + (a0.extract 0 ((ji8) : Int).toNat).size) = False := eq_false (Nat.not_lt.2 c67)
                     replace H := Option.bind_eq_some_iff.mp H
                     obtain ⟨t319, A680, H⟩ := H
                     have A68 := Aside0.mk A680
                     clear A680
                     by_cases c69 : t319 = true
                     ·subst c69
                      have H1 : (hortatorlaw7_NoteAny.l0 kj54 (a0.extract 0 ((ji8) : Int).toNat) a3 a4 y310 (y310.length : Int) (wrap64 (x41_2 + 1)) x291000_13 x291001_13 x291002_13 x291003_13 x291004_13) = some r := by rw [if_pos rfl] at H; exact H
                      clear H
                      have H := H1
                      clear H1
                      have H' := Aside0.mk H
                      clear H
                      obtain ⟨gs0, gs1, ga, gt⟩ := turnB.of A58.out
                      rw [hji62] at gt
                      have GT := Aside0.mk gt
                      have glen : t314.length = (rdOf ByteArray.empty y310 x41_2).size := by rw [← gt, List.length_set, numsOf_len]
                      clear gt
                      have GLEN := Aside0.mk glen
                      clear glen
                      have gl : ji62 < ((rdOf ByteArray.empty y310 x41_2).size : Int) := by rw [← hji62]; exact Int.tmod_lt_of_pos _ (by omega)
                      have gj : 0 ≤ ji62 := by rw [← hji62]; exact Int.tmod_nonneg _ ga
                      have gn : ji62.toNat < (numsOf (rdOf ByteArray.empty y310 x41_2)).length := by rw [numsOf_len]; omega
                      have GN := Aside0.mk gn
                      have gl1 : decide (ji62 < ((rdOf ByteArray.empty y310 x41_2).size : Int)) = true := decide_eq_true gl
                      have gl0 := eq_true gl
                      have hmin0 : (9223372036854775807 < (rdOf ByteArray.empty y310 x41_2).size + min ji8.toNat a0.size) = False := eq_false (by have := Nat.min_le_left ji8.toNat a0.size; omega)
                      have hne0 : ((rdOf ByteArray.empty y310 x41_2) = ByteArray.empty) = False := eq_false (fun e => by rw [e] at gs0; exact absurd gs0 (by decide))
                      clear gl gj ga gs0 gs1 gn
                      have hcv := fun (w : World) => Lib.run_convert_string_bytes (P := Tryz.prog) w 9 56 5 (rdOf ByteArray.empty y310 x41_2) Tryz.underlying9 Tryz.underlying56 Tryz.underlying5
                      go_upto_region 15 with fail
                      clear hcv
                      obtain ⟨W1, hW1⟩ : ∃ W_, W_ = Lib.bytesWorld wc 5 (rdOf ByteArray.empty y310 x41_2) := ⟨_, rfl⟩
                      rw [← hW1]
                      have hb := Lib.bytesWorld_below wc 5 (rdOf ByteArray.empty y310 x41_2)
                      rw [← hW1] at hb
                      have br0 := BR.made wc w.heap.size (below_size HB.out) (rdOf ByteArray.empty y310 x41_2)
                      rw [← hW1] at br0
                      clear hW1
                      obtain ⟨cq, hcq⟩ : ∃ c_, c_ = grownCap wc (rdOf ByteArray.empty y310 x41_2).size 0 5 := ⟨_, rfl⟩
                      rw [← hcq]
                      clear hcq
                      obtain ⟨gq, hgq⟩ : ∃ g_, g_ = wc.heap.size := ⟨_, rfl⟩
                      rw [← hgq] at br0
                      rw [← hgq]
                      have GQ := Aside0.mk (Nat.le_of_eq hgq.symm)
                      clear hgq
                      have BR0 := Aside0.mk br0
                      have HBY := Aside0.mk hb
                      clear br0 hb
                      have hx : W1.cell? ⟨gq, ji62.toNat, none⟩ = some (.int .u8 (rd (numsOf (rdOf ByteArray.empty y310 x41_2)) ji62)) := BR0.out.cell _ GN.out
                      have hf : W1.frozen? ⟨gq, ji62.toNat, none⟩ = false := BR0.out.free _ GN.out
                      go_upto_region 16 with fail
                      obtain ⟨w70, hW2⟩ : ∃ W_, W_ = W1.setCell ⟨gq, ji62.toNat, none⟩ (.int .u8 (bits .xor .u8 (rd (numsOf (rdOf ByteArray.empty y310 x41_2)) ji62) a4)) := ⟨_, rfl⟩
                      rw [← hW2]
                      have HO316 : Aside0 (BR w70 w.heap.size gq t314) := ⟨by rw [hW2, ← GT.out]; exact BR0.out.put _ GN.out _⟩
                      have hb : Below wc.heap.size wc w70 := by rw [hW2]; exact HBY.out.setCell GQ.out _
                      clear hW2 hx hf BR0 HBY
                      have n0_ := Aside0.mk (Kd.R_below HO_39.out hb)
                      have n1_ := Aside0.mk (Kd.R_below HO_291004.out hb)
                      have n2_ := Aside0.mk (Kd.R_below HO_292003.out hb)
                      have n3_ := Aside0.mk (blk_below BK290.out hb)
                      have n4_ := Aside0.mk (blk_below BK291.out hb)
                      have n5_ := Aside0.mk (below_step HB.out hb)
                      clear HO_39 HO_291004 HO_292003 BK290 BK291 HB
                      have HO_39 := n0_
                      have HO_291004 := n1_
                      have HO_292003 := n2_
                      have BK290 := n3_
                      have BK291 := n4_
                      have HB := n5_
                      clear hb n0_ n1_ n2_ n3_ n4_ n5_
                      replace HO_39 := Aside0.mk (Kd.R_drew HO_39.out)
                      replace HO_291004 := Aside0.mk (Kd.R_drew HO_291004.out)
                      replace HO_292003 := Aside0.mk (Kd.R_drew HO_292003.out)
                      replace HO316 := Aside0.mk (BR.drew HO316.out)
                      replace BK290 := Aside0.mk (blk_drew BK290.out)
                      replace BK291 := Aside0.mk (blk_drew BK291.out)
                      replace HB := Aside0.mk (below_drew1 HB.out)
                      refine start_ (n := 24) (S := fun w' => w'.cell? ⟨gb290, 0, none⟩ = some (.int .i64 x291000_13) ∧ w'.cell? ⟨gb290, 1, none⟩ = some (.int .i64 x291001_13) ∧ w'.cell? ⟨gb290, 2, none⟩ = some (.int .i64 x291002_13) ∧ w'.cell? ⟨gb290, 3, none⟩ = some (.int .i64 x291003_13) ∧ w'.cell? ⟨gb290, 4, none⟩ = some (.slice Ao44 x291004_13.length co44) ∧ (convert 56 9 (.slice (some ⟨gq, 0, none⟩) (rdOf ByteArray.empty y310 x41_2).size cq)).run Tryz.prog w' = .ok (.string (strOfNums t314)) w') (ds := []) #[false, false, false, false, false, false, false, false, false, false, false, false, false, false, false, false, false, false, false, false, false, false, false, false] (by kernel_rfl) rfl rfl ⟨(blk_cell BK290.out 0).trans rfl, (blk_cell BK290.out 1).trans rfl, (blk_cell BK290.out 2).trans rfl, (blk_cell BK290.out 3).trans rfl, (blk_cell BK290.out 4).trans rfl, HO316.out.string GLEN.out Tryz.underlying56 Tryz.underlying5 Tryz.underlying9 cq⟩ (fun hHeld => ?_); refine with_tabW hortatorlaw7_NoteAny.tab16 hortatorlaw7_NoteAny.bits16 (fun HT_ HW_ => ?_)
                      generalize w70.drew = w71 at HO_39 HO_291004 HO_292003 HO316 BK290 BK291 HB hHeld ⊢
                      refine pure_ (i := 1) (N := some 64) (v := ?_) (a' := ?_) #[false, true, false, false, false, false, false, false, false, false, false, false, false, false, false, false, false, false, false, false, false, false, false, false] rfl rfl (any_of HT_.out (by kernel_rfl)) (fun _ _ _ h => h) (Or.inl ⟨by rfl, ?_⟩) ?_ ?_
                      rotate_left
                      ·intro w'
                       go_simp
                       with_reducible rfl
                      rotate_left
                      ·simp only [Act.put, List.setIfInBounds_toArray, List.set_cons_zero, List.set_cons_succ, i64_w, i32_w]
                       rfl
                      refine take_ (i := 2) (N := some 65) (v := ?_) (a' := ?_) #[false, true, true, false, false, false, false, false, false, false, false, false, false, false, false, false, false, false, false, false, false, false, false, false] rfl rfl (take_ofW HT_.out HW_.out (by kernel_rfl)) (fun _ _ _ h => h) (Or.inl ⟨by rfl, ?_⟩) hHeld ?_ ?_
                      rotate_left
                      ·rintro w' ⟨s0, s1, s2, s3, s4, s5⟩
                       go_simp
                       with_reducible rfl
                      rotate_left
                      ·simp only [Act.put, List.setIfInBounds_toArray, List.set_cons_zero, List.set_cons_succ, i64_w, i32_w]
                       rfl
                      refine take_ (i := 0) (N := some 63) (v := ?_) (a' := ?_) #[true, true, true, false, false, false, false, false, false, false, false, false, false, false, false, false, false, false, false, false, false, false, false, false] rfl rfl (take_ofW HT_.out HW_.out (by kernel_rfl)) (fun _ _ _ h => h) (Or.inl ⟨by rfl, ?_⟩) hHeld ?_ ?_
                      rotate_left
                      ·rintro w' ⟨s0, s1, s2, s3, s4, s5⟩
                       go_simp
                       with_reducible rfl
                      rotate_left
                      ·simp only [Act.put, List.setIfInBounds_toArray, List.set_cons_zero, List.set_cons_succ, i64_w, i32_w]
                       rfl
                      refine one_ (i := 3) (N := some 66) #[true, true, true, true, false, false, false, false, false, false, false, false, false, false, false, false, false, false, false, false, false, false, false, false] rfl rfl (one_of HT_.out (by kernel_rfl)) (by decide) (fun K hK => ?_)
                      refine goes_ Tryz.func35 (by kernel_rfl) rfl #[.agg #[.int .i64 x291000_13, .int .i64 x291001_13, .int .i64 x291002_13, .int .i64 x291003_13, .slice Ao44 x291004_13.length co44], .string (strOfNums t314)] (by rfl) rfl rfl (by (try simp only [List.map_toArray, List.map_cons, List.map_nil]); (rfl)) ?_
                      with_reducible refine (hortatorlaw7_tells.calls kj54 x291000_13 x291001_13 x291002_13 x291003_13 _ _ x291004_13 (strOfNums t314) true _ ?side1 ?side2 (HL.out.below HB.out) A59.out).mono ?_
                      (case side1 => repeat ((exact (Kd.R_reads' HO_291004.out).2.2)))
                      (case side2 => exact (Kd.R_reads' HO_291004.out).2.1)
                      rintro e w73 ⟨rfl, hb⟩
                      refine ⟨_, rfl, ?_⟩
                      replace HO_39 := Aside0.mk (Kd.R_below HO_39.out hb)
                      replace HO_291004 := Aside0.mk (Kd.R_below HO_291004.out hb)
                      replace HO_292003 := Aside0.mk (Kd.R_below HO_292003.out hb)
                      replace HO316 := Aside0.mk (BR.below HO316.out hb)
                      replace BK290 := Aside0.mk (blk_below BK290.out hb)
                      replace BK291 := Aside0.mk (blk_below BK291.out hb)
                      replace HB := Aside0.mk (below_step HB.out hb)
                      (try clear hb)
                      (try clear hb2)
                      (try clear hk)
                      (try clear hi)
                      refine hK.out _ _ ⟨(blk_cell BK290.out 0).trans rfl, (blk_cell BK290.out 1).trans rfl, (blk_cell BK290.out 2).trans rfl, (blk_cell BK290.out 3).trans rfl, (blk_cell BK290.out 4).trans rfl, HO316.out.string GLEN.out Tryz.underlying56 Tryz.underlying5 Tryz.underlying9 cq⟩ (fun hHeld => ?_)
                      clear hK K
                      refine norm_ (a' := ?_) ?_ ?_
                      rotate_left
                      ·show Act.put _ (some 66) _ = _
                       simp only [Act.put, List.setIfInBounds_toArray, List.set_cons_zero, List.set_cons_succ, i64_w, i32_w]
                       rfl
                      refine pure_ (i := 4) (N := some 67) (v := ?_) (a' := ?_) #[true, true, true, true, true, false, false, false, false, false, false, false, false, false, false, false, false, false, false, false, false, false, false, false] rfl rfl (any_of HT_.out (by kernel_rfl)) (fun _ _ _ h => h) (Or.inl ⟨by rfl, ?_⟩) ?_ ?_
                      rotate_left
                      ·intro w'
                       go_simp
                       with_reducible rfl
                      rotate_left
                      ·simp only [Act.put, List.setIfInBounds_toArray, List.set_cons_zero, List.set_cons_succ, i64_w, i32_w]
                       rfl
                      refine pure_ (i := 5) (N := some 68) (v := ?_) (a' := ?_) #[true, true, true, true, true, true, false, false, false, false, false, false, false, false, false, false, false, false, false, false, false, false, false, false] rfl rfl (any_of HT_.out (by kernel_rfl)) (fun _ _ _ h => h) (Or.inl ⟨by rfl, ?_⟩) ?_ ?_
                      rotate_left
                      ·intro w'
                       go_simp
                       with_reducible rfl
                      rotate_left
                      ·simp only [Act.put, List.setIfInBounds_toArray, List.set_cons_zero, List.set_cons_succ, i64_w, i32_w]
                       rfl
                      refine pure_ (i := 7) (N := some 70) (v := ?_) (a' := ?_) #[true, true, true, true, true, true, false, true, false, false, false, false, false, false, false, false, false, false, false, false, false, false, false, false] rfl rfl (any_of HT_.out (by kernel_rfl)) (fun _ _ _ h => h) (Or.inl ⟨by rfl, ?_⟩) ?_ ?_
                      rotate_left
                      ·intro w'
                       go_simp
                       with_reducible rfl
                      rotate_left
                      ·simp only [Act.put, List.setIfInBounds_toArray, List.set_cons_zero, List.set_cons_succ, i64_w, i32_w]
                       rfl
                      refine pure_ (i := 8) (N := some 71) (v := ?_) (a' := ?_) #[true, true, true, true, true, true, false, true, true, false, false, false, false, false, false, false, false, false, false, false, false, false, false, false] rfl rfl (any_of HT_.out (by kernel_rfl)) (fun _ _ _ h => h) (Or.inl ⟨by rfl, ?_⟩) ?_ ?_
                      rotate_left
                      ·intro w'
                       go_simp
                       with_reducible rfl
                      rotate_left
                      ·simp only [Act.put, List.setIfInBounds_toArray, List.set_cons_zero, List.set_cons_succ, i64_w, i32_w]
                       rfl
                      refine pure_ (i := 9) (N := some 72) (v := ?_) (a' := ?_) #[true, true, true, true, true, true, false, true, true, true, false, false, false, false, false, false, false, false, false, false, false, false, false, false] rfl rfl (any_of HT_.out (by kernel_rfl)) (fun _ _ _ h => h) (Or.inl ⟨by rfl, ?_⟩) ?_ ?_
                      rotate_left
                      ·intro w'
                       go_simp
                       with_reducible rfl
                      rotate_left
                      ·simp only [Act.put, List.setIfInBounds_toArray, List.set_cons_zero, List.set_cons_succ, i64_w, i32_w]
                       rfl
                      refine pure_ (i := 10) (N := some 73) (v := ?_) (a' := ?_) #[true, true, true, true, true, true, false, true, true, true, true, false, false, false, false, false, false, false, false, false, false, false, false, false] rfl rfl (any_of HT_.out (by kernel_rfl)) (fun _ _ _ h => h) (Or.inl ⟨by rfl, ?_⟩) ?_ ?_
                      rotate_left
                      ·intro w'
                       go_simp
                       with_reducible rfl
                      rotate_left
                      ·simp only [Act.put, List.setIfInBounds_toArray, List.set_cons_zero, List.set_cons_succ, i64_w, i32_w]
                       rfl
                      refine pure_ (i := 11) (N := some 74) (v := ?_) (a' := ?_) #[true, true, true, true, true, true, false, true, true, true, true, true, false, false, false, false, false, false, false, false, false, false, false, false] rfl rfl (any_of HT_.out (by kernel_rfl)) (fun _ _ _ h => h) (Or.inl ⟨by rfl, ?_⟩) ?_ ?_
                      rotate_left
                      ·intro w'
                       go_simp
                       with_reducible rfl
                      rotate_left
                      ·simp only [Act.put, List.setIfInBounds_toArray, List.set_cons_zero, List.set_cons_succ, i64_w, i32_w]
                       rfl
                      refine pure_ (i := 12) (N := some 75) (v := ?_) (a' := ?_) #[true, true, true, true, true, true, false, true, true, true, true, true, true, false, false, false, false, false, false, false, false, false, false, false] rfl rfl (any_of HT_.out (by kernel_rfl)) (fun _ _ _ h => h) (Or.inl ⟨by rfl, ?_⟩) ?_ ?_
                      rotate_left
                      ·intro w'
                       go_simp
                       with_reducible rfl
                      rotate_left
                      ·simp only [Act.put, List.setIfInBounds_toArray, List.set_cons_zero, List.set_cons_succ, i64_w, i32_w]
                       rfl
                      refine take_ (i := 6) (N := some 69) (v := ?_) (a' := ?_) #[true, true, true, true, true, true, true, true, true, true, true, true, true, false, false, false, false, false, false, false, false, false, false, false] rfl rfl (take_ofW HT_.out HW_.out (by kernel_rfl)) (fun _ _ _ h => h) (Or.inl ⟨by rfl, ?_⟩) hHeld ?_ ?_
                      rotate_left
                      ·rintro w' ⟨s0, s1, s2, s3, s4, s5⟩
                       go_simp
                       with_reducible rfl
                      rotate_left
                      ·simp only [Act.put, List.setIfInBounds_toArray, List.set_cons_zero, List.set_cons_succ, i64_w, i32_w]
                       rfl
                      refine one_ (i := 13) (N := some 76) #[true, true, true, true, true, true, true, true, true, true, true, true, true, true, false, false, false, false, false, false, false, false, false, false] rfl rfl (one_of HT_.out (by kernel_rfl)) (by decide) (fun K hK => ?_)
                      refine goes_ Tryz.func35 (by kernel_rfl) rfl #[.agg #[.int .i64 x291000_13, .int .i64 x291001_13, .int .i64 x291002_13, .int .i64 x291003_13, .slice Ao44 x291004_13.length co44], .string ((rdOf ByteArray.empty y310 x41_2).extract 0 ((ji62) : Int).toNat)] (by rfl) rfl rfl (by (try simp only [List.map_toArray, List.map_cons, List.map_nil]); (rfl)) ?_
                      with_reducible refine (hortatorlaw7_tells.calls kj54 x291000_13 x291001_13 x291002_13 x291003_13 _ _ x291004_13 ((rdOf ByteArray.empty y310 x41_2).extract 0 ((ji62) : Int).toNat) true _ ?side1 ?side2 (HL.out.below HB.out) A65.out).mono ?_
                      (case side1 => repeat ((exact (Kd.R_reads' HO_291004.out).2.2)))
                      (case side2 => exact (Kd.R_reads' HO_291004.out).2.1)
                      rintro e w74 ⟨rfl, hb⟩
                      refine ⟨_, rfl, ?_⟩
                      replace HO_39 := Aside0.mk (Kd.R_below HO_39.out hb)
                      replace HO_291004 := Aside0.mk (Kd.R_below HO_291004.out hb)
                      replace HO_292003 := Aside0.mk (Kd.R_below HO_292003.out hb)
                      replace HO316 := Aside0.mk (BR.below HO316.out hb)
                      replace BK290 := Aside0.mk (blk_below BK290.out hb)
                      replace BK291 := Aside0.mk (blk_below BK291.out hb)
                      replace HB := Aside0.mk (below_step HB.out hb)
                      (try clear hb)
                      (try clear hb2)
                      (try clear hk)
                      (try clear hi)
                      refine hK.out _ _ ⟨(blk_cell BK290.out 0).trans rfl, (blk_cell BK290.out 1).trans rfl, (blk_cell BK290.out 2).trans rfl, (blk_cell BK290.out 3).trans rfl, (blk_cell BK290.out 4).trans rfl, HO316.out.string GLEN.out Tryz.underlying56 Tryz.underlying5 Tryz.underlying9 cq⟩ (fun hHeld => ?_)
                      clear hK K
                      refine norm_ (a' := ?_) ?_ ?_
                      rotate_left
                      ·show Act.put _ (some 76) _ = _
                       simp only [Act.put, List.setIfInBounds_toArray, List.set_cons_zero, List.set_cons_succ, i64_w, i32_w]
                       rfl
                      refine pure_ (i := 14) (N := some 77) (v := ?_) (a' := ?_) #[true, true, true, true, true, true, true, true, true, true, true, true, true, true, true, false, false, false, false, false, false, false, false, false] rfl rfl (any_of HT_.out (by kernel_rfl)) (fun _ _ _ h => h) (Or.inl ⟨by rfl, ?_⟩) ?_ ?_
                      rotate_left
                      ·intro w'
                       go_simp
                       with_reducible rfl
                      rotate_left
                      ·simp only [Act.put, List.setIfInBounds_toArray, List.set_cons_zero, List.set_cons_succ, i64_w, i32_w]
                       rfl
                      refine pure_ (i := 15) (N := some 78) (v := ?_) (a' := ?_) #[true, true, true, true, true, true, true, true, true, true, true, true, true, true, true, true, false, false, false, false, false, false, false, false] rfl rfl (any_of HT_.out (by kernel_rfl)) (fun _ _ _ h => h) (Or.inl ⟨by rfl, ?_⟩) ?_ ?_
                      rotate_left
                      ·intro w'
                       go_simp
                       with_reducible rfl
                      rotate_left
                      ·simp only [Act.put, List.setIfInBounds_toArray, List.set_cons_zero, List.set_cons_succ, i64_w, i32_w]
                       rfl
                      refine pure_ (i := 16) (N := some 79) (v := ?_) (a' := ?_) #[true, true, true, true, true, true, true, true, true, true, true, true, true, true, true, true, true, false, false, false, false, false, false, false] rfl rfl (any_of HT_.out (by kernel_rfl)) (fun _ _ _ h => h) (Or.inl ⟨by rfl, ?_⟩) ?_ ?_
                      rotate_left
                      ·intro w'
                       go_simp
                       with_reducible rfl
                      rotate_left
                      ·simp only [Act.put, List.setIfInBounds_toArray, List.set_cons_zero, List.set_cons_succ, i64_w, i32_w]
                       rfl
                      refine pure_ (i := 18) (N := some 81) (v := ?_) (a' := ?_) #[true, true, true, true, true, true, true, true, true, true, true, true, true, true, true, true, true, false, true, false, false, false, false, false] rfl rfl (any_of HT_.out (by kernel_rfl)) (fun _ _ _ h => h) (Or.inl ⟨by rfl, ?_⟩) ?_ ?_
                      rotate_left
                      ·intro w'
                       go_simp
                       with_reducible rfl
                      rotate_left
                      ·simp only [Act.put, List.setIfInBounds_toArray, List.set_cons_zero, List.set_cons_succ, i64_w, i32_w]
                       rfl
                      refine pure_ (i := 19) (N := some 82) (v := ?_) (a' := ?_) #[true, true, true, true, true, true, true, true, true, true, true, true, true, true, true, true, true, false, true, true, false, false, false, false] rfl rfl (any_of HT_.out (by kernel_rfl)) (fun _ _ _ h => h) (Or.inl ⟨by rfl, ?_⟩) ?_ ?_
                      rotate_left
                      ·intro w'
                       go_simp
                       with_reducible rfl
                      rotate_left
                      ·simp only [Act.put, List.setIfInBounds_toArray, List.set_cons_zero, List.set_cons_succ, i64_w, i32_w]
                       rfl
                      refine pure_ (i := 20) (N := some 83) (v := ?_) (a' := ?_) #[true, true, true, true, true, true, true, true, true, true, true, true, true, true, true, true, true, false, true, true, true, false, false, false] rfl rfl (any_of HT_.out (by kernel_rfl)) (fun _ _ _ h => h) (Or.inl ⟨by rfl, ?_⟩) ?_ ?_
                      rotate_left
                      ·intro w'
                       go_simp
                       with_reducible rfl
                      rotate_left
                      ·simp only [Act.put, List.setIfInBounds_toArray, List.set_cons_zero, List.set_cons_succ, i64_w, i32_w]
                       rfl
                      refine take_ (i := 17) (N := some 80) (v := ?_) (a' := ?_) #[true, true, true, true, true, true, true, true, true, true, true, true, true, true, true, true, true, true, true, true, true, false, false, false] rfl rfl (take_ofW HT_.out HW_.out (by kernel_rfl)) (fun _ _ _ h => h) (Or.inl ⟨by rfl, ?_⟩) hHeld ?_ ?_
                      rotate_left
                      ·rintro w' ⟨s0, s1, s2, s3, s4, s5⟩
                       go_simp
                       with_reducible rfl
                      rotate_left
                      ·simp only [Act.put, List.setIfInBounds_toArray, List.set_cons_zero, List.set_cons_succ, i64_w, i32_w]
                       rfl
                      refine one_ (i := 21) (N := some 84) #[true, true, true, true, true, true, true, true, true, true, true, true, true, true, true, true, true, true, true, true, true, true, false, false] rfl rfl (one_of HT_.out (by kernel_rfl)) (by decide) (fun K hK => ?_)
                      refine goes_ Tryz.func35 (by kernel_rfl) rfl #[.agg #[.int .i64 x291000_13, .int .i64 x291001_13, .int .i64 x291002_13, .int .i64 x291003_13, .slice Ao44 x291004_13.length co44], .string ((rdOf ByteArray.empty y310 x41_2) ++ (a0.extract 0 ((ji8) : Int).toNat))] (by rfl) rfl rfl (by (try simp only [List.map_toArray, List.map_cons, List.map_nil]); (rfl)) ?_
                      with_reducible refine (hortatorlaw7_tells.calls kj54 x291000_13 x291001_13 x291002_13 x291003_13 _ _ x291004_13 ((rdOf ByteArray.empty y310 x41_2) ++ (a0.extract 0 ((ji8) : Int).toNat)) true _ ?side1 ?side2 (HL.out.below HB.out) A68.out).mono ?_
                      (case side1 => repeat ((exact (Kd.R_reads' HO_291004.out).2.2)))
                      (case side2 => exact (Kd.R_reads' HO_291004.out).2.1)
                      rintro e w75 ⟨rfl, hb⟩
                      refine ⟨_, rfl, ?_⟩
                      replace HO_39 := Aside0.mk (Kd.R_below HO_39.out hb)
                      replace HO_291004 := Aside0.mk (Kd.R_below HO_291004.out hb)
                      replace HO_292003 := Aside0.mk (Kd.R_below HO_292003.out hb)
                      replace HO316 := Aside0.mk (BR.below HO316.out hb)
                      replace BK290 := Aside0.mk (blk_below BK290.out hb)
                      replace BK291 := Aside0.mk (blk_below BK291.out hb)
                      replace HB := Aside0.mk (below_step HB.out hb)
                      (try clear hb)
                      (try clear hb2)
                      (try clear hk)
                      (try clear hi)
                      refine hK.out _ _ ⟨(blk_cell BK290.out 0).trans rfl, (blk_cell BK290.out 1).trans rfl, (blk_cell BK290.out 2).trans rfl, (blk_cell BK290.out 3).trans rfl, (blk_cell BK290.out 4).trans rfl, HO316.out.string GLEN.out Tryz.underlying56 Tryz.underlying5 Tryz.underlying9 cq⟩ (fun hHeld => ?_)
                      clear hK K
                      refine norm_ (a' := ?_) ?_ ?_
                      rotate_left
                      ·show Act.put _ (some 84) _ = _
                       simp only [Act.put, List.setIfInBounds_toArray, List.set_cons_zero, List.set_cons_succ, i64_w, i32_w]
                       rfl
                      refine pure_ (i := 22) (N := some 85) (v := ?_) (a' := ?_) #[true, true, true, true, true, true, true, true, true, true, true, true, true, true, true, true, true, true, true, true, true, true, true, false] rfl rfl (any_of HT_.out (by kernel_rfl)) (fun _ _ _ h => h) (Or.inl ⟨by rfl, ?_⟩) ?_ ?_
                      rotate_left
                      ·intro w'
                       go_simp
                       with_reducible rfl
                      rotate_left
                      ·simp only [Act.put, List.setIfInBounds_toArray, List.set_cons_zero, List.set_cons_succ, i64_w, i32_w]
                       rfl
                      refine pure_ (i := 23) (N := some 86) (v := ?_) (a' := ?_) #[true, true, true, true, true, true, true, true, true, true, true, true, true, true, true, true, true, true, true, true, true, true, true, true] rfl rfl (any_of HT_.out (by kernel_rfl)) (fun _ _ _ h => h) (Or.inl ⟨by rfl, ?_⟩) ?_ ?_
                      rotate_left
                      ·intro w'
                       go_simp
                       with_reducible rfl
                      rotate_left
                      ·simp only [Act.put, List.setIfInBounds_toArray, List.set_cons_zero, List.set_cons_succ, i64_w, i32_w]
                       rfl
                      refine done_ (done_of HT_.out (by kernel_rfl)) ?_
                      try go_wp2
                      go_roundg kj54
                      case measure => have := HJ13.out; have := HK2.out; have := HJ54.out; omega
                      case rel => exact ⟨(wrap64 (x41_2 + 1)), (by (rfl)), H', ⟨by have := HJ13.out; have := HK2.out; have := HJ54.out; omega⟩, ⟨HO_39.out⟩, ⟨HO_291004.out⟩, ⟨HO_292003.out⟩, ⟨BK290.out⟩, ⟨BK291.out⟩, ⟨HB.out⟩⟩
                     ·replace c69 := Bool.eq_false_iff.mpr c69
                      subst c69
                      have H1 : (none) = some r := by rw [if_neg (show ¬ (false = true) by decide)] at H; exact H
                      clear H
                      have H := H1
                      clear H1
                      exact absurd H (by simp)
                    ·rw [if_neg c67] at H
                     exact absurd H (by simp)
                   ·replace c66 := Bool.eq_false_iff.mpr c66
                    subst c66
                    have H1 : (none) = some r := by rw [if_neg (show ¬ (false = true) by decide)] at H; exact H
                    clear H
                    have H := H1
                    clear H1
                    exact absurd H (by simp)
                  ·rw [if_neg c64] at H
                   exact absurd H (by simp)
                 ·rw [if_neg c63] at H
                  exact absurd H (by simp)
               ·replace c60 := Bool.eq_false_iff.mpr c60
                subst c60
                have H1 : (none) = some r := by rw [if_neg (show ¬ (false = true) by decide)] at H; exact H
                clear H
                have H := H1
                clear H1
                exact absurd H (by simp)
           ·rw [if_neg c54] at H
            exact absurd H (by simp)
          ·rw [if_neg c53] at H
           exact absurd H (by simp)
         ·rw [if_neg c52] at H
          have c52b0 : decide (x41_2 < (y310.length : Int)) = false := decide_eq_false c52
          clear c52
          obtain rfl := Option.some.inj H
          go_wp2
          go_ret
          exact ⟨by (rfl), by repeat ((with_reducible (exact HB.out)))⟩
      ·replace c39 := Bool.eq_false_iff.mpr c39
       subst c39
       have H1 : (none) = some r := by rw [if_neg (show ¬ (false = true) by decide)] at H; exact H
       clear H
       have H := H1
       clear H1
       exact absurd H (by simp)
   ·rw [if_neg c10] at H
    exact absurd H (by simp)
  ·rw [if_neg c9] at H
   exact absurd H (by simp)
 ·replace c7 := Bool.eq_false_iff.mpr c7
  subst c7
  have H1 : (none) = some r := by rw [if_neg (show ¬ (false = true) by decide)] at H; exact H
  clear H
  have H := H1
  clear H1
  exact absurd H (by simp)

end Go.Proofs.YtjjlicancbmjiaaGreatDoor.PNeg
