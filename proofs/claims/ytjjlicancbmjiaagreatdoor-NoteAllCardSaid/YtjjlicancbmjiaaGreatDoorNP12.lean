-- Written by a program of this session (wip/pp.py) over the kit's print, with hand-proved contracts beside it.
import Derived.Test.YtjjlicancbmjiaaGreatDoorPBegx0
import Derived.Test.YtjjlicancbmjiaaGreatDoorPBegx1
import Derived.Test.YtjjlicancbmjiaaGreatDoorPBegx3
import Derived.Test.YtjjlicancbmjiaaGreatDoorPBegx5
import Derived.Test.YtjjlicancbmjiaaGreatDoorPBegx13
import Derived.Test.YtjjlicancbmjiaaGreatDoorPBegx14
import Derived.Test.YtjjlicancbmjiaaGreatDoorWn
import Derived.Test.YtjjlicancbmjiaaGreatDoorL2a
import Derived.Test.YtjjlicancbmjiaaGreatDoorL3
import Derived.Test.YtjjlicancbmjiaaGreatDoorL6
import Derived.Test.YtjjlicancbmjiaaGreatDoorPNegx4
import Derived.Test.YtjjlicancbmjiaaGreatDoorPNegx6
import Derived.Test.YtjjlicancbmjiaaGreatDoorPNegx8
import Derived.Test.YtjjlicancbmjiaaGreatDoorPNegx10
import Derived.Test.YtjjlicancbmjiaaGreatDoorNB
import Derived.Test.YtjjlicancbmjiaaGreatDoorNN6
import Derived.Test.YtjjlicancbmjiaaGreatDoorNN7
import Derived.Test.YtjjlicancbmjiaaGreatDoorNN8
namespace Go.Proofs.YtjjlicancbmjiaaGreatDoor.PNeg
open Go.Proofs.YtjjlicancbmjiaaGreatDoor.PBeg
open Go.Shelf Go.Lib Go.RowKit Go.Proofs.YtjjlicancbmjiaaGreatDoorW.PrintWords Go.Proofs.YtjjlicancbmjiaaGreatDoorW.PrintLast Go.Proofs.YtjjlicancbmjiaaGreatDoorW.PrintMore
attribute [local go_sem] max2_int min2_int max_two min_two max_three min_three max_four min_four   -- for this text's walks alone
set_option linter.unusedVariables false
set_option linter.unusedSimpArgs false

/-! ### hortatorlaw7_NoteAll: function 5 -/
def hortatorlaw7_NoteAll.j0 : Nat → ByteArray → ByteArray → Bool → Int → Int → Int → Int → List Int → Int → Int → Int → List (S43) → Option (Bool)
 | 0, _, _, _, _, _, _, _, _, _, _, _, _ => none
 | k + 1, x10, x12, x80, x265000, x265001, x265002, x265003, x265004, x267000, x267001, x267002, x267003 => if x80 = true then (none) else (if x10.toList = ([] : List UInt8) then ((hortatorref7_Config.f k x265000 x265001 x265002 x265003 x265004).bind fun t305 => (some (!t305))) else ((note_GetConfig.f k x10).bind fun bt306 => ((note_GetTask.f k x265000 x265001 x265002 x265003 x265004 x12).bind fun bt315 => (if bt306.2.2.2.2.2 = 0 then ((hortatorlaw7_sameConfig.f k bt306.1 bt306.2.1 bt306.2.2.1 bt306.2.2.2.1 bt306.2.2.2.2.1 x265000 x265001 x265002 x265003 x265004).bind fun t323 => (if t323 = true then ((hortatorref7_Task.f x265000 x265001 x265002 x265003 x265004 x267000 x267001 x267002 x267003).bind fun t324 => (if ((bt315.2.2.2.2 == 0) == t324) = true then (if bt315.2.2.2.2 = 0 then ((rule_Same.f k bt315.1 bt315.2.1 bt315.2.2.1 bt315.2.2.2.1 x267000 x267001 x267002 x267003).bind fun t325 => (some t325)) else ((rule_Same.f k bt315.1 bt315.2.1 bt315.2.2.1 bt315.2.2.2.1 0 0 0 ([] : List (S43))).bind fun t326 => (if t326 = true then (some true) else (none)))) else (none))) else (none))) else (none)))))
def hortatorlaw7_NoteAll.f (k : Nat) (a0_0 : Int) (a0_1 : Int) (a0_2 : Int) (a0_3 : Int) (l0_4 : List Int) (a1_0 : Int) (a1_1 : Int) (a1_2 : Int) (a1_3 : Int) (l1_4 : List Int) (a2_0 : Int) (a2_1 : Int) (a2_2 : Int) (l2_3 : List (S43)) (a3_0 : Int) (a3_1 : Int) (a3_2 : Int) (l3_3 : List (S43)) : Option (Bool) := (begun7.f).bind fun t268 => (if t268 = true then ((hortatorlaw7_Config.f a0_0 a0_1 a0_2 a0_3 l0_4).bind fun bt269 => ((hortatorlaw7_Config.f a1_0 a1_1 a1_2 a1_3 l1_4).bind fun bt276 => ((hortatorlaw7_Task.f a2_0 a2_1 a2_2 l2_3).bind fun bt283 => ((hortatorlaw7_Task.f a3_0 a3_1 a3_2 l3_3).bind fun bt289 => ((note_PutConfig.f k bt269.1 bt269.2.1 bt269.2.2.1 bt269.2.2.2.1 bt269.2.2.2.2).bind fun t295 => ((note_PutConfig.f k bt276.1 bt276.2.1 bt276.2.2.1 bt276.2.2.2.1 bt276.2.2.2.2).bind fun t296 => ((note_PutTask.f k bt283.1 bt283.2.1 bt283.2.2.1 bt283.2.2.2).bind fun t297 => ((note_PutTask.f k bt289.1 bt289.2.1 bt289.2.2.1 bt289.2.2.2).bind fun t298 => ((hortatorref7_PutConfig.f k bt269.1 bt269.2.1 bt269.2.2.1 bt269.2.2.2.1 bt269.2.2.2.2).bind fun t299 => (if t295.toList = t299.toList then ((hortatorref7_PutTask.f k bt283.1 bt283.2.1 bt283.2.2.1 bt283.2.2.2).bind fun t300 => (if t297.toList = t300.toList then (if t295.toList = ([] : List UInt8) then (if t297.toList = ([] : List UInt8) then (hortatorlaw7_NoteAll.j0 k t295 t297 false bt269.1 bt269.2.1 bt269.2.2.1 bt269.2.2.2.1 bt269.2.2.2.2 bt283.1 bt283.2.1 bt283.2.2.1 bt283.2.2.2) else (if t298.toList = ([] : List UInt8) then (hortatorlaw7_NoteAll.j0 k t295 t297 false bt269.1 bt269.2.1 bt269.2.2.1 bt269.2.2.2.1 bt269.2.2.2.2 bt283.1 bt283.2.1 bt283.2.2.1 bt283.2.2.2) else ((rule_Same.f k bt283.1 bt283.2.1 bt283.2.2.1 bt283.2.2.2 bt289.1 bt289.2.1 bt289.2.2.1 bt289.2.2.2).bind fun t301 => (hortatorlaw7_NoteAll.j0 k t295 t297 ((t297.toList == t298.toList) != t301) bt269.1 bt269.2.1 bt269.2.2.1 bt269.2.2.2.1 bt269.2.2.2.2 bt283.1 bt283.2.1 bt283.2.2.1 bt283.2.2.2)))) else (if t296.toList = ([] : List UInt8) then (if t297.toList = ([] : List UInt8) then (hortatorlaw7_NoteAll.j0 k t295 t297 false bt269.1 bt269.2.1 bt269.2.2.1 bt269.2.2.2.1 bt269.2.2.2.2 bt283.1 bt283.2.1 bt283.2.2.1 bt283.2.2.2) else (if t298.toList = ([] : List UInt8) then (hortatorlaw7_NoteAll.j0 k t295 t297 false bt269.1 bt269.2.1 bt269.2.2.1 bt269.2.2.2.1 bt269.2.2.2.2 bt283.1 bt283.2.1 bt283.2.2.1 bt283.2.2.2) else ((rule_Same.f k bt283.1 bt283.2.1 bt283.2.2.1 bt283.2.2.2 bt289.1 bt289.2.1 bt289.2.2.1 bt289.2.2.2).bind fun t302 => (hortatorlaw7_NoteAll.j0 k t295 t297 ((t297.toList == t298.toList) != t302) bt269.1 bt269.2.1 bt269.2.2.1 bt269.2.2.2.1 bt269.2.2.2.2 bt283.1 bt283.2.1 bt283.2.2.1 bt283.2.2.2)))) else ((hortatorlaw7_sameConfig.f k bt269.1 bt269.2.1 bt269.2.2.1 bt269.2.2.2.1 bt269.2.2.2.2 bt276.1 bt276.2.1 bt276.2.2.1 bt276.2.2.2.1 bt276.2.2.2.2).bind fun t303 => (if ((t295.toList == t296.toList) != t303) = true then (hortatorlaw7_NoteAll.j0 k t295 t297 true bt269.1 bt269.2.1 bt269.2.2.1 bt269.2.2.2.1 bt269.2.2.2.2 bt283.1 bt283.2.1 bt283.2.2.1 bt283.2.2.2) else (if t297.toList = ([] : List UInt8) then (hortatorlaw7_NoteAll.j0 k t295 t297 false bt269.1 bt269.2.1 bt269.2.2.1 bt269.2.2.2.1 bt269.2.2.2.2 bt283.1 bt283.2.1 bt283.2.2.1 bt283.2.2.2) else (if t298.toList = ([] : List UInt8) then (hortatorlaw7_NoteAll.j0 k t295 t297 false bt269.1 bt269.2.1 bt269.2.2.1 bt269.2.2.2.1 bt269.2.2.2.2 bt283.1 bt283.2.1 bt283.2.2.1 bt283.2.2.2) else ((rule_Same.f k bt283.1 bt283.2.1 bt283.2.2.1 bt283.2.2.2 bt289.1 bt289.2.1 bt289.2.2.1 bt289.2.2.2).bind fun t304 => (hortatorlaw7_NoteAll.j0 k t295 t297 ((t297.toList == t298.toList) != t304) bt269.1 bt269.2.1 bt269.2.2.1 bt269.2.2.2.1 bt269.2.2.2.2 bt283.1 bt283.2.1 bt283.2.2.1 bt283.2.2.2)))))))) else (hortatorlaw7_NoteAll.j0 k t295 t297 true bt269.1 bt269.2.1 bt269.2.2.1 bt269.2.2.2.1 bt269.2.2.2.2 bt283.1 bt283.2.1 bt283.2.2.1 bt283.2.2.2))) else (hortatorlaw7_NoteAll.j0 k t295 t297 true bt269.1 bt269.2.1 bt269.2.2.1 bt269.2.2.2.1 bt269.2.2.2.2 bt283.1 bt283.2.1 bt283.2.2.1 bt283.2.2.2))))))))))) else (none))
def hortatorlaw7_NoteAll.T4 : Bool × List (List Nat × List Nat) := (true, [([], []), ([0], [0]), ([], []), ([2, 1], [2]), ([], []), ([4, 3], [4]), ([], []), ([6, 5], [6]), ([1, 7, 0, 1], [1]), ([3, 8, 0, 1, 2, 3, 8], [3]), ([5, 9, 0, 1, 2, 3, 4, 5, 8, 9], [5]), ([7, 10, 0, 1, 2, 3, 4, 5, 6, 7, 8, 9, 10], [7])])
def hortatorlaw7_NoteAll.B4 : List Nat := [0, 1, 0, 7, 0, 31, 0, 127, 255, 511, 1023, 2047]
theorem hortatorlaw7_NoteAll.tab4 : rtab .any (opsOf Tryz.f5 4) = hortatorlaw7_NoteAll.T4 := by kernel_rfl
theorem hortatorlaw7_NoteAll.bits4 : waitsOk hortatorlaw7_NoteAll.T4.2 hortatorlaw7_NoteAll.B4 = true := by kernel_rfl
set_option maxHeartbeats 8000000 in
set_option maxRecDepth 100000 in
theorem hortatorlaw7_NoteAll.calls (k : Nat) (a0_0 : Int) (a0_1 : Int) (a0_2 : Int) (a0_3 : Int) (A0_4 : Option Addr) (c0_4 : Nat) (l0_4 : List Int) (a1_0 : Int) (a1_1 : Int) (a1_2 : Int) (a1_3 : Int) (A1_4 : Option Addr) (c1_4 : Nat) (l1_4 : List Int) (a2_0 : Int) (a2_1 : Int) (a2_2 : Int) (A2_3 : Option Addr) (c2_3 : Nat) (l2_3 : List (S43)) (a3_0 : Int) (a3_1 : Int) (a3_2 : Int) (A3_3 : Option Addr) (c3_3 : Nat) (l3_3 : List (S43)) (r : Bool) (w : World) (hr0_4 : Kd.C (Kd.int .i64) w A0_4 l0_4.length l0_4) (hc0_4 : l0_4.length ≤ c0_4) (hr1_4 : Kd.C (Kd.int .i64) w A1_4 l1_4.length l1_4) (hc1_4 : l1_4.length ≤ c1_4) (hr2_3 : Kd.C k43 w A2_3 l2_3.length l2_3) (hc2_3 : l2_3.length ≤ c2_3) (hr3_3 : Kd.C k43 w A3_3 l3_3.length l3_3) (hc3_3 : l3_3.length ≤ c3_3) (hL : LW w) (h : hortatorlaw7_NoteAll.f k a0_0 a0_1 a0_2 a0_3 l0_4 a1_0 a1_1 a1_2 a1_3 l1_4 a2_0 a2_1 a2_2 l2_3 a3_0 a3_1 a3_2 l3_3 = some r) :
  Calls Tryz.prog 5 #[.agg #[.int .i64 a0_0, .int .i64 a0_1, .int .i64 a0_2, .int .i64 a0_3, .slice A0_4 l0_4.length c0_4], .agg #[.int .i64 a1_0, .int .i64 a1_1, .int .i64 a1_2, .int .i64 a1_3, .slice A1_4 l1_4.length c1_4], .agg #[.int .i64 a2_0, .int .i64 a2_1, .int .i64 a2_2, .slice A2_3 l2_3.length c2_3], .agg #[.int .i64 a3_0, .int .i64 a3_1, .int .i64 a3_2, .slice A3_3 l3_3.length c3_3]] w fun e w' => e = .returned (.bool r) ∧ Below w.heap.size w w' := by
 have hu24 := Tryz.underlying24
 have hu27 := Tryz.underlying27
 have HR0_4 := Aside0.mk hr0_4
 have HC0_4 := Aside0.mk hc0_4
 clear hr0_4 hc0_4
 have HR1_4 := Aside0.mk hr1_4
 have HC1_4 := Aside0.mk hc1_4
 clear hr1_4 hc1_4
 have HR2_3 := Aside0.mk hr2_3
 have HC2_3 := Aside0.mk hc2_3
 clear hr2_3 hc2_3
 have HR3_3 := Aside0.mk hr3_3
 have HC3_3 := Aside0.mk hc3_3
 clear hr3_3 hc3_3
 have HB := Aside0.mk (Below.refl w.heap.size w)
 have HL := Aside0.mk hL
 clear hL
 have H : ((begun7.f).bind fun t268 => (if t268 = true then ((hortatorlaw7_Config.f a0_0 a0_1 a0_2 a0_3 l0_4).bind fun bt269 => ((hortatorlaw7_Config.f a1_0 a1_1 a1_2 a1_3 l1_4).bind fun bt276 => ((hortatorlaw7_Task.f a2_0 a2_1 a2_2 l2_3).bind fun bt283 => ((hortatorlaw7_Task.f a3_0 a3_1 a3_2 l3_3).bind fun bt289 => ((note_PutConfig.f k bt269.1 bt269.2.1 bt269.2.2.1 bt269.2.2.2.1 bt269.2.2.2.2).bind fun t295 => ((note_PutConfig.f k bt276.1 bt276.2.1 bt276.2.2.1 bt276.2.2.2.1 bt276.2.2.2.2).bind fun t296 => ((note_PutTask.f k bt283.1 bt283.2.1 bt283.2.2.1 bt283.2.2.2).bind fun t297 => ((note_PutTask.f k bt289.1 bt289.2.1 bt289.2.2.1 bt289.2.2.2).bind fun t298 => ((hortatorref7_PutConfig.f k bt269.1 bt269.2.1 bt269.2.2.1 bt269.2.2.2.1 bt269.2.2.2.2).bind fun t299 => (if t295.toList = t299.toList then ((hortatorref7_PutTask.f k bt283.1 bt283.2.1 bt283.2.2.1 bt283.2.2.2).bind fun t300 => (if t297.toList = t300.toList then (if t295.toList = ([] : List UInt8) then (if t297.toList = ([] : List UInt8) then (hortatorlaw7_NoteAll.j0 k t295 t297 false bt269.1 bt269.2.1 bt269.2.2.1 bt269.2.2.2.1 bt269.2.2.2.2 bt283.1 bt283.2.1 bt283.2.2.1 bt283.2.2.2) else (if t298.toList = ([] : List UInt8) then (hortatorlaw7_NoteAll.j0 k t295 t297 false bt269.1 bt269.2.1 bt269.2.2.1 bt269.2.2.2.1 bt269.2.2.2.2 bt283.1 bt283.2.1 bt283.2.2.1 bt283.2.2.2) else ((rule_Same.f k bt283.1 bt283.2.1 bt283.2.2.1 bt283.2.2.2 bt289.1 bt289.2.1 bt289.2.2.1 bt289.2.2.2).bind fun t301 => (hortatorlaw7_NoteAll.j0 k t295 t297 ((t297.toList == t298.toList) != t301) bt269.1 bt269.2.1 bt269.2.2.1 bt269.2.2.2.1 bt269.2.2.2.2 bt283.1 bt283.2.1 bt283.2.2.1 bt283.2.2.2)))) else (if t296.toList = ([] : List UInt8) then (if t297.toList = ([] : List UInt8) then (hortatorlaw7_NoteAll.j0 k t295 t297 false bt269.1 bt269.2.1 bt269.2.2.1 bt269.2.2.2.1 bt269.2.2.2.2 bt283.1 bt283.2.1 bt283.2.2.1 bt283.2.2.2) else (if t298.toList = ([] : List UInt8) then (hortatorlaw7_NoteAll.j0 k t295 t297 false bt269.1 bt269.2.1 bt269.2.2.1 bt269.2.2.2.1 bt269.2.2.2.2 bt283.1 bt283.2.1 bt283.2.2.1 bt283.2.2.2) else ((rule_Same.f k bt283.1 bt283.2.1 bt283.2.2.1 bt283.2.2.2 bt289.1 bt289.2.1 bt289.2.2.1 bt289.2.2.2).bind fun t302 => (hortatorlaw7_NoteAll.j0 k t295 t297 ((t297.toList == t298.toList) != t302) bt269.1 bt269.2.1 bt269.2.2.1 bt269.2.2.2.1 bt269.2.2.2.2 bt283.1 bt283.2.1 bt283.2.2.1 bt283.2.2.2)))) else ((hortatorlaw7_sameConfig.f k bt269.1 bt269.2.1 bt269.2.2.1 bt269.2.2.2.1 bt269.2.2.2.2 bt276.1 bt276.2.1 bt276.2.2.1 bt276.2.2.2.1 bt276.2.2.2.2).bind fun t303 => (if ((t295.toList == t296.toList) != t303) = true then (hortatorlaw7_NoteAll.j0 k t295 t297 true bt269.1 bt269.2.1 bt269.2.2.1 bt269.2.2.2.1 bt269.2.2.2.2 bt283.1 bt283.2.1 bt283.2.2.1 bt283.2.2.2) else (if t297.toList = ([] : List UInt8) then (hortatorlaw7_NoteAll.j0 k t295 t297 false bt269.1 bt269.2.1 bt269.2.2.1 bt269.2.2.2.1 bt269.2.2.2.2 bt283.1 bt283.2.1 bt283.2.2.1 bt283.2.2.2) else (if t298.toList = ([] : List UInt8) then (hortatorlaw7_NoteAll.j0 k t295 t297 false bt269.1 bt269.2.1 bt269.2.2.1 bt269.2.2.2.1 bt269.2.2.2.2 bt283.1 bt283.2.1 bt283.2.2.1 bt283.2.2.2) else ((rule_Same.f k bt283.1 bt283.2.1 bt283.2.2.1 bt283.2.2.2 bt289.1 bt289.2.1 bt289.2.2.1 bt289.2.2.2).bind fun t304 => (hortatorlaw7_NoteAll.j0 k t295 t297 ((t297.toList == t298.toList) != t304) bt269.1 bt269.2.1 bt269.2.2.1 bt269.2.2.2.1 bt269.2.2.2.2 bt283.1 bt283.2.1 bt283.2.2.1 bt283.2.2.2)))))))) else (hortatorlaw7_NoteAll.j0 k t295 t297 true bt269.1 bt269.2.1 bt269.2.2.1 bt269.2.2.2.1 bt269.2.2.2.2 bt283.1 bt283.2.1 bt283.2.2.1 bt283.2.2.2))) else (hortatorlaw7_NoteAll.j0 k t295 t297 true bt269.1 bt269.2.1 bt269.2.2.1 bt269.2.2.2.1 bt269.2.2.2.2 bt283.1 bt283.2.1 bt283.2.2.1 bt283.2.2.2))))))))))) else (none))) = some r := h
 clear h
 replace H := Option.bind_eq_some_iff.mp H
 obtain ⟨t268, A50, H⟩ := H
 have A5 := Aside0.mk A50
 clear A50
 by_cases c6 : t268 = true
 ·subst c6
  have H1 : ((hortatorlaw7_Config.f a0_0 a0_1 a0_2 a0_3 l0_4).bind fun bt269 => ((hortatorlaw7_Config.f a1_0 a1_1 a1_2 a1_3 l1_4).bind fun bt276 => ((hortatorlaw7_Task.f a2_0 a2_1 a2_2 l2_3).bind fun bt283 => ((hortatorlaw7_Task.f a3_0 a3_1 a3_2 l3_3).bind fun bt289 => ((note_PutConfig.f k bt269.1 bt269.2.1 bt269.2.2.1 bt269.2.2.2.1 bt269.2.2.2.2).bind fun t295 => ((note_PutConfig.f k bt276.1 bt276.2.1 bt276.2.2.1 bt276.2.2.2.1 bt276.2.2.2.2).bind fun t296 => ((note_PutTask.f k bt283.1 bt283.2.1 bt283.2.2.1 bt283.2.2.2).bind fun t297 => ((note_PutTask.f k bt289.1 bt289.2.1 bt289.2.2.1 bt289.2.2.2).bind fun t298 => ((hortatorref7_PutConfig.f k bt269.1 bt269.2.1 bt269.2.2.1 bt269.2.2.2.1 bt269.2.2.2.2).bind fun t299 => (if t295.toList = t299.toList then ((hortatorref7_PutTask.f k bt283.1 bt283.2.1 bt283.2.2.1 bt283.2.2.2).bind fun t300 => (if t297.toList = t300.toList then (if t295.toList = ([] : List UInt8) then (if t297.toList = ([] : List UInt8) then (hortatorlaw7_NoteAll.j0 k t295 t297 false bt269.1 bt269.2.1 bt269.2.2.1 bt269.2.2.2.1 bt269.2.2.2.2 bt283.1 bt283.2.1 bt283.2.2.1 bt283.2.2.2) else (if t298.toList = ([] : List UInt8) then (hortatorlaw7_NoteAll.j0 k t295 t297 false bt269.1 bt269.2.1 bt269.2.2.1 bt269.2.2.2.1 bt269.2.2.2.2 bt283.1 bt283.2.1 bt283.2.2.1 bt283.2.2.2) else ((rule_Same.f k bt283.1 bt283.2.1 bt283.2.2.1 bt283.2.2.2 bt289.1 bt289.2.1 bt289.2.2.1 bt289.2.2.2).bind fun t301 => (hortatorlaw7_NoteAll.j0 k t295 t297 ((t297.toList == t298.toList) != t301) bt269.1 bt269.2.1 bt269.2.2.1 bt269.2.2.2.1 bt269.2.2.2.2 bt283.1 bt283.2.1 bt283.2.2.1 bt283.2.2.2)))) else (if t296.toList = ([] : List UInt8) then (if t297.toList = ([] : List UInt8) then (hortatorlaw7_NoteAll.j0 k t295 t297 false bt269.1 bt269.2.1 bt269.2.2.1 bt269.2.2.2.1 bt269.2.2.2.2 bt283.1 bt283.2.1 bt283.2.2.1 bt283.2.2.2) else (if t298.toList = ([] : List UInt8) then (hortatorlaw7_NoteAll.j0 k t295 t297 false bt269.1 bt269.2.1 bt269.2.2.1 bt269.2.2.2.1 bt269.2.2.2.2 bt283.1 bt283.2.1 bt283.2.2.1 bt283.2.2.2) else ((rule_Same.f k bt283.1 bt283.2.1 bt283.2.2.1 bt283.2.2.2 bt289.1 bt289.2.1 bt289.2.2.1 bt289.2.2.2).bind fun t302 => (hortatorlaw7_NoteAll.j0 k t295 t297 ((t297.toList == t298.toList) != t302) bt269.1 bt269.2.1 bt269.2.2.1 bt269.2.2.2.1 bt269.2.2.2.2 bt283.1 bt283.2.1 bt283.2.2.1 bt283.2.2.2)))) else ((hortatorlaw7_sameConfig.f k bt269.1 bt269.2.1 bt269.2.2.1 bt269.2.2.2.1 bt269.2.2.2.2 bt276.1 bt276.2.1 bt276.2.2.1 bt276.2.2.2.1 bt276.2.2.2.2).bind fun t303 => (if ((t295.toList == t296.toList) != t303) = true then (hortatorlaw7_NoteAll.j0 k t295 t297 true bt269.1 bt269.2.1 bt269.2.2.1 bt269.2.2.2.1 bt269.2.2.2.2 bt283.1 bt283.2.1 bt283.2.2.1 bt283.2.2.2) else (if t297.toList = ([] : List UInt8) then (hortatorlaw7_NoteAll.j0 k t295 t297 false bt269.1 bt269.2.1 bt269.2.2.1 bt269.2.2.2.1 bt269.2.2.2.2 bt283.1 bt283.2.1 bt283.2.2.1 bt283.2.2.2) else (if t298.toList = ([] : List UInt8) then (hortatorlaw7_NoteAll.j0 k t295 t297 false bt269.1 bt269.2.1 bt269.2.2.1 bt269.2.2.2.1 bt269.2.2.2.2 bt283.1 bt283.2.1 bt283.2.2.1 bt283.2.2.2) else ((rule_Same.f k bt283.1 bt283.2.1 bt283.2.2.1 bt283.2.2.2 bt289.1 bt289.2.1 bt289.2.2.1 bt289.2.2.2).bind fun t304 => (hortatorlaw7_NoteAll.j0 k t295 t297 ((t297.toList == t298.toList) != t304) bt269.1 bt269.2.1 bt269.2.2.1 bt269.2.2.2.1 bt269.2.2.2.2 bt283.1 bt283.2.1 bt283.2.2.1 bt283.2.2.2)))))))) else (hortatorlaw7_NoteAll.j0 k t295 t297 true bt269.1 bt269.2.1 bt269.2.2.1 bt269.2.2.2.1 bt269.2.2.2.2 bt283.1 bt283.2.1 bt283.2.2.1 bt283.2.2.2))) else (hortatorlaw7_NoteAll.j0 k t295 t297 true bt269.1 bt269.2.1 bt269.2.2.1 bt269.2.2.2.1 bt269.2.2.2.2 bt283.1 bt283.2.1 bt283.2.2.1 bt283.2.2.2))))))))))) = some r := by rw [if_pos rfl] at H; exact H
  clear H
  have H := H1
  clear H1
  replace H := Option.bind_eq_some_iff.mp H
  obtain ⟨⟨t269, t270, t271, t272, t273⟩, A70, H⟩ := H
  have A7 := Aside0.mk A70
  clear A70
  replace H := Option.bind_eq_some_iff.mp H
  obtain ⟨⟨t276, t277, t278, t279, t280⟩, A80, H⟩ := H
  have A8 := Aside0.mk A80
  clear A80
  replace H := Option.bind_eq_some_iff.mp H
  obtain ⟨⟨t283, t284, t285, t286⟩, A90, H⟩ := H
  have A9 := Aside0.mk A90
  clear A90
  replace H := Option.bind_eq_some_iff.mp H
  obtain ⟨⟨t289, t290, t291, t292⟩, A100, H⟩ := H
  have A10 := Aside0.mk A100
  clear A100
  replace H := Option.bind_eq_some_iff.mp H
  obtain ⟨t295, A110, H⟩ := H
  have A11 := Aside0.mk A110
  clear A110
  replace H := Option.bind_eq_some_iff.mp H
  obtain ⟨t296, A120, H⟩ := H
  have A12 := Aside0.mk A120
  clear A120
  replace H := Option.bind_eq_some_iff.mp H
  obtain ⟨t297, A130, H⟩ := H
  have A13 := Aside0.mk A130
  clear A130
  replace H := Option.bind_eq_some_iff.mp H
  obtain ⟨t298, A140, H⟩ := H
  have A14 := Aside0.mk A140
  clear A140
  have HC15 := Aside0.mk H
  clear H
  go_enter Tryz.func5, Tryz.ntmps5
  try go_wp2_with (first | ((with_reducible refine gate_dst (N := 4) rfl ?_); refine box_event ?hg (N := 4) ?hd (cs := #[.int .i64 a0_0, .int .i64 a0_1, .int .i64 a0_2, .int .i64 a0_3, .slice A0_4 l0_4.length c0_4]) (t := 24) ?hr ?_; (case hd => rfl); (case hg => rfl); (case hr => (go_simp; done)); intro gb264 hg w16 hbox hb; have BK264 := Aside0.mk (hbox); have GW264 := Aside0.mk ((by rw [hg]; exact below_size HB.out : w.heap.size ≤ gb264)); have GE264 := Aside0.mk ((by rw [hg]; exact below_size HB.out : w.heap.size ≤ gb264)); replace HB := Aside0.mk (below_step HB.out hb); clear hb hbox hg) | ((with_reducible refine gate_dst (N := 5) rfl ?_); refine box_event ?hg (N := 5) ?hd (cs := #[.int .i64 a1_0, .int .i64 a1_1, .int .i64 a1_2, .int .i64 a1_3, .slice A1_4 l1_4.length c1_4]) (t := 24) ?hr ?_; (case hd => rfl); (case hg => rfl); (case hr => (go_simp; done)); intro gb265 hg w17 hbox hb; have BK265 := Aside0.mk (hbox); have GW265 := Aside0.mk ((by rw [hg]; exact below_size HB.out : w.heap.size ≤ gb265)); have GE265 := Aside0.mk ((by rw [hg]; exact below_size HB.out : w.heap.size ≤ gb265)); have NB264_265 := Aside0.mk ((by rw [hg]; exact Nat.ne_of_lt (blk_lt BK264.out) : gb264 ≠ gb265)); have NB265_264 := Aside0.mk ((by rw [hg]; exact Nat.ne_of_gt (blk_lt BK264.out) : gb265 ≠ gb264)); replace BK264 := Aside0.mk (blk_below BK264.out hb); replace HB := Aside0.mk (below_step HB.out hb); clear hb hbox hg) | ((with_reducible refine gate_dst (N := 6) rfl ?_); refine box_event ?hg (N := 6) ?hd (cs := #[.int .i64 a2_0, .int .i64 a2_1, .int .i64 a2_2, .slice A2_3 l2_3.length c2_3]) (t := 27) ?hr ?_; (case hd => rfl); (case hg => rfl); (case hr => (go_simp; done)); intro gb266 hg w18 hbox hb; have BK266 := Aside0.mk (hbox); have GW266 := Aside0.mk ((by rw [hg]; exact below_size HB.out : w.heap.size ≤ gb266)); have GE266 := Aside0.mk ((by rw [hg]; exact below_size HB.out : w.heap.size ≤ gb266)); have NB264_266 := Aside0.mk ((by rw [hg]; exact Nat.ne_of_lt (blk_lt BK264.out) : gb264 ≠ gb266)); have NB266_264 := Aside0.mk ((by rw [hg]; exact Nat.ne_of_gt (blk_lt BK264.out) : gb266 ≠ gb264)); have NB265_266 := Aside0.mk ((by rw [hg]; exact Nat.ne_of_lt (blk_lt BK265.out) : gb265 ≠ gb266)); have NB266_265 := Aside0.mk ((by rw [hg]; exact Nat.ne_of_gt (blk_lt BK265.out) : gb266 ≠ gb265)); replace BK264 := Aside0.mk (blk_below BK264.out hb); replace BK265 := Aside0.mk (blk_below BK265.out hb); replace HB := Aside0.mk (below_step HB.out hb); clear hb hbox hg) | ((with_reducible refine gate_dst (N := 7) rfl ?_); refine box_event ?hg (N := 7) ?hd (cs := #[.int .i64 a3_0, .int .i64 a3_1, .int .i64 a3_2, .slice A3_3 l3_3.length c3_3]) (t := 27) ?hr ?_; (case hd => rfl); (case hg => rfl); (case hr => (go_simp; done)); intro gb267 hg w19 hbox hb; have BK267 := Aside0.mk (hbox); have GW267 := Aside0.mk ((by rw [hg]; exact below_size HB.out : w.heap.size ≤ gb267)); have GE267 := Aside0.mk ((by rw [hg]; exact below_size HB.out : w.heap.size ≤ gb267)); have NB264_267 := Aside0.mk ((by rw [hg]; exact Nat.ne_of_lt (blk_lt BK264.out) : gb264 ≠ gb267)); have NB267_264 := Aside0.mk ((by rw [hg]; exact Nat.ne_of_gt (blk_lt BK264.out) : gb267 ≠ gb264)); have NB265_267 := Aside0.mk ((by rw [hg]; exact Nat.ne_of_lt (blk_lt BK265.out) : gb265 ≠ gb267)); have NB267_265 := Aside0.mk ((by rw [hg]; exact Nat.ne_of_gt (blk_lt BK265.out) : gb267 ≠ gb265)); have NB266_267 := Aside0.mk ((by rw [hg]; exact Nat.ne_of_lt (blk_lt BK266.out) : gb266 ≠ gb267)); have NB267_266 := Aside0.mk ((by rw [hg]; exact Nat.ne_of_gt (blk_lt BK266.out) : gb267 ≠ gb266)); replace BK264 := Aside0.mk (blk_below BK264.out hb); replace BK265 := Aside0.mk (blk_below BK265.out hb); replace BK266 := Aside0.mk (blk_below BK266.out hb); replace HB := Aside0.mk (below_step HB.out hb); clear hb hbox hg) | ((with_reducible refine gate_callee (f := 13) rfl ?_); refine goesL_ (some 18) rfl rfl Tryz.func13 (by kernel_rfl) rfl #[] rfl (by (try simp only [List.map_toArray, List.map_cons, List.map_nil]); (done)) ?_; (with_reducible refine (begun7.calls  true _ (HL.out.below HB.out) A5.out).mono ?_); rintro e w20 ⟨rfl, hb⟩; refine ⟨_, rfl, ?_⟩; replace BK264 := Aside0.mk (blk_below BK264.out hb); replace BK265 := Aside0.mk (blk_below BK265.out hb); replace BK266 := Aside0.mk (blk_below BK266.out hb); replace BK267 := Aside0.mk (blk_below BK267.out hb); replace HB := Aside0.mk (below_step HB.out hb); (try clear hb); (try clear hb2); (try clear hk); (try clear hi)))
  replace BK264 := Aside0.mk (blk_drew BK264.out)
  replace BK265 := Aside0.mk (blk_drew BK265.out)
  replace BK266 := Aside0.mk (blk_drew BK266.out)
  replace BK267 := Aside0.mk (blk_drew BK267.out)
  replace HB := Aside0.mk (below_drew1 HB.out)
  refine start_ (n := 12) (S := fun w' => w'.cell? ⟨gb264, 0, none⟩ = some (.int .i64 a0_0) ∧ w'.cell? ⟨gb264, 1, none⟩ = some (.int .i64 a0_1) ∧ w'.cell? ⟨gb264, 2, none⟩ = some (.int .i64 a0_2) ∧ w'.cell? ⟨gb264, 3, none⟩ = some (.int .i64 a0_3) ∧ w'.cell? ⟨gb264, 4, none⟩ = some (.slice A0_4 l0_4.length c0_4) ∧ w'.cell? ⟨gb265, 0, none⟩ = some (.int .i64 a1_0) ∧ w'.cell? ⟨gb265, 1, none⟩ = some (.int .i64 a1_1) ∧ w'.cell? ⟨gb265, 2, none⟩ = some (.int .i64 a1_2) ∧ w'.cell? ⟨gb265, 3, none⟩ = some (.int .i64 a1_3) ∧ w'.cell? ⟨gb265, 4, none⟩ = some (.slice A1_4 l1_4.length c1_4) ∧ w'.cell? ⟨gb266, 0, none⟩ = some (.int .i64 a2_0) ∧ w'.cell? ⟨gb266, 1, none⟩ = some (.int .i64 a2_1) ∧ w'.cell? ⟨gb266, 2, none⟩ = some (.int .i64 a2_2) ∧ w'.cell? ⟨gb266, 3, none⟩ = some (.slice A2_3 l2_3.length c2_3) ∧ w'.cell? ⟨gb267, 0, none⟩ = some (.int .i64 a3_0) ∧ w'.cell? ⟨gb267, 1, none⟩ = some (.int .i64 a3_1) ∧ w'.cell? ⟨gb267, 2, none⟩ = some (.int .i64 a3_2) ∧ w'.cell? ⟨gb267, 3, none⟩ = some (.slice A3_3 l3_3.length c3_3)) (ds := [8, 9, 10, 11]) #[false, false, false, false, false, false, false, false, false, false, false, false] (by kernel_rfl) rfl rfl ⟨(blk_cell BK264.out 0).trans rfl, (blk_cell BK264.out 1).trans rfl, (blk_cell BK264.out 2).trans rfl, (blk_cell BK264.out 3).trans rfl, (blk_cell BK264.out 4).trans rfl, (blk_cell BK265.out 0).trans rfl, (blk_cell BK265.out 1).trans rfl, (blk_cell BK265.out 2).trans rfl, (blk_cell BK265.out 3).trans rfl, (blk_cell BK265.out 4).trans rfl, (blk_cell BK266.out 0).trans rfl, (blk_cell BK266.out 1).trans rfl, (blk_cell BK266.out 2).trans rfl, (blk_cell BK266.out 3).trans rfl, (blk_cell BK267.out 0).trans rfl, (blk_cell BK267.out 1).trans rfl, (blk_cell BK267.out 2).trans rfl, (blk_cell BK267.out 3).trans rfl⟩ (fun hHeld => ?_); refine with_tabW hortatorlaw7_NoteAll.tab4 hortatorlaw7_NoteAll.bits4 (fun HT_ HW_ => ?_)
  generalize w20.drew = w21 at BK264 BK265 BK266 BK267 HB hHeld ⊢
  refine take_ (i := 0) (N := some 21) (v := ?_) (a' := ?_) #[true, false, false, false, false, false, false, false, false, false, false, false] rfl rfl (take_ofW HT_.out HW_.out (by kernel_rfl)) (fun _ _ _ h => h) (Or.inl ⟨by rfl, ?_⟩) hHeld ?_ ?_
  rotate_left
  ·rintro w' ⟨s0, s1, s2, s3, s4, s5, s6, s7, s8, s9, s10, s11, s12, s13, s14, s15, s16, s17⟩
   go_simp
   with_reducible rfl
  rotate_left
  ·simp only [Act.put, List.setIfInBounds_toArray, List.set_cons_zero, List.set_cons_succ, i64_w, i32_w]
   rfl
  refine take_ (i := 2) (N := some 23) (v := ?_) (a' := ?_) #[true, false, true, false, false, false, false, false, false, false, false, false] rfl rfl (take_ofW HT_.out HW_.out (by kernel_rfl)) (fun _ _ _ h => h) (Or.inl ⟨by rfl, ?_⟩) hHeld ?_ ?_
  rotate_left
  ·rintro w' ⟨s0, s1, s2, s3, s4, s5, s6, s7, s8, s9, s10, s11, s12, s13, s14, s15, s16, s17⟩
   go_simp
   with_reducible rfl
  rotate_left
  ·simp only [Act.put, List.setIfInBounds_toArray, List.set_cons_zero, List.set_cons_succ, i64_w, i32_w]
   rfl
  refine take_ (i := 4) (N := some 25) (v := ?_) (a' := ?_) #[true, false, true, false, true, false, false, false, false, false, false, false] rfl rfl (take_ofW HT_.out HW_.out (by kernel_rfl)) (fun _ _ _ h => h) (Or.inl ⟨by rfl, ?_⟩) hHeld ?_ ?_
  rotate_left
  ·rintro w' ⟨s0, s1, s2, s3, s4, s5, s6, s7, s8, s9, s10, s11, s12, s13, s14, s15, s16, s17⟩
   go_simp
   with_reducible rfl
  rotate_left
  ·simp only [Act.put, List.setIfInBounds_toArray, List.set_cons_zero, List.set_cons_succ, i64_w, i32_w]
   rfl
  refine take_ (i := 6) (N := some 27) (v := ?_) (a' := ?_) #[true, false, true, false, true, false, true, false, false, false, false, false] rfl rfl (take_ofW HT_.out HW_.out (by kernel_rfl)) (fun _ _ _ h => h) (Or.inl ⟨by rfl, ?_⟩) hHeld ?_ ?_
  rotate_left
  ·rintro w' ⟨s0, s1, s2, s3, s4, s5, s6, s7, s8, s9, s10, s11, s12, s13, s14, s15, s16, s17⟩
   go_simp
   with_reducible rfl
  rotate_left
  ·simp only [Act.put, List.setIfInBounds_toArray, List.set_cons_zero, List.set_cons_succ, i64_w, i32_w]
   rfl
  refine one_ (i := 1) (N := some 22) #[true, true, true, false, true, false, true, false, false, false, false, false] rfl rfl (one_of HT_.out (by kernel_rfl)) (by decide) (fun K hK => ?_)
  refine goes_ Tryz.func14 (by kernel_rfl) rfl #[.agg #[.int .i64 a0_0, .int .i64 a0_1, .int .i64 a0_2, .int .i64 a0_3, .slice A0_4 l0_4.length c0_4]] (by rfl) rfl rfl (by (try simp only [List.map_toArray, List.map_cons, List.map_nil]); (rfl)) ?_
  with_reducible refine (hortatorlaw7_Config.calls a0_0 a0_1 a0_2 a0_3 _ _ l0_4 t269 t270 t271 t272 t273 _ ?side1 ?side2 A7.out).mono ?_
  (case side1 => repeat ((exact (Kd.C_below HR0_4.out HB.out))))
  (case side2 => exact HC0_4.out)
  rintro e w22 ⟨v274, rfl, ho0, hb⟩
  refine ⟨_, rfl, ?_⟩
  have HO275 := Aside0.mk (Kd.R_lower ho0 (below_size HB.out))
  replace BK264 := Aside0.mk (blk_below BK264.out hb)
  replace BK265 := Aside0.mk (blk_below BK265.out hb)
  replace BK266 := Aside0.mk (blk_below BK266.out hb)
  replace BK267 := Aside0.mk (blk_below BK267.out hb)
  replace HB := Aside0.mk (below_step HB.out hb)
  (try clear hb)
  (try clear hb2)
  (try clear hk)
  (try clear hi)
  (try clear ho0)
  refine hK.out _ _ ⟨(blk_cell BK264.out 0).trans rfl, (blk_cell BK264.out 1).trans rfl, (blk_cell BK264.out 2).trans rfl, (blk_cell BK264.out 3).trans rfl, (blk_cell BK264.out 4).trans rfl, (blk_cell BK265.out 0).trans rfl, (blk_cell BK265.out 1).trans rfl, (blk_cell BK265.out 2).trans rfl, (blk_cell BK265.out 3).trans rfl, (blk_cell BK265.out 4).trans rfl, (blk_cell BK266.out 0).trans rfl, (blk_cell BK266.out 1).trans rfl, (blk_cell BK266.out 2).trans rfl, (blk_cell BK266.out 3).trans rfl, (blk_cell BK267.out 0).trans rfl, (blk_cell BK267.out 1).trans rfl, (blk_cell BK267.out 2).trans rfl, (blk_cell BK267.out 3).trans rfl⟩ (fun hHeld => ?_)
  clear hK K
  refine norm_ (a' := ?_) ?_ ?_
  rotate_left
  ·show Act.put _ (some 22) _ = _
   simp only [Act.put, List.setIfInBounds_toArray, List.set_cons_zero, List.set_cons_succ, i64_w, i32_w]
   rfl
  refine one_ (i := 3) (N := some 24) #[true, true, true, true, true, false, true, false, false, false, false, false] rfl rfl (one_of HT_.out (by kernel_rfl)) (by decide) (fun K hK => ?_)
  refine goes_ Tryz.func14 (by kernel_rfl) rfl #[.agg #[.int .i64 a1_0, .int .i64 a1_1, .int .i64 a1_2, .int .i64 a1_3, .slice A1_4 l1_4.length c1_4]] (by rfl) rfl rfl (by (try simp only [List.map_toArray, List.map_cons, List.map_nil]); (rfl)) ?_
  with_reducible refine (hortatorlaw7_Config.calls a1_0 a1_1 a1_2 a1_3 _ _ l1_4 t276 t277 t278 t279 t280 _ ?side1 ?side2 A8.out).mono ?_
  (case side1 => repeat ((exact (Kd.C_below HR1_4.out HB.out))))
  (case side2 => exact HC1_4.out)
  rintro e w23 ⟨v281, rfl, ho0, hb⟩
  refine ⟨_, rfl, ?_⟩
  have HO282 := Aside0.mk (Kd.R_lower (Kd.R_new' ho0 (Kd.R_lt HO275.out)) (below_size HB.out))
  replace HO275 := Aside0.mk (Kd.R_elder' HO275.out (Kd.R_base ho0) hb)
  replace BK264 := Aside0.mk (blk_below BK264.out hb)
  replace BK265 := Aside0.mk (blk_below BK265.out hb)
  replace BK266 := Aside0.mk (blk_below BK266.out hb)
  replace BK267 := Aside0.mk (blk_below BK267.out hb)
  replace HB := Aside0.mk (below_step HB.out hb)
  (try clear hb)
  (try clear hb2)
  (try clear hk)
  (try clear hi)
  (try clear ho0)
  refine hK.out _ _ ⟨(blk_cell BK264.out 0).trans rfl, (blk_cell BK264.out 1).trans rfl, (blk_cell BK264.out 2).trans rfl, (blk_cell BK264.out 3).trans rfl, (blk_cell BK264.out 4).trans rfl, (blk_cell BK265.out 0).trans rfl, (blk_cell BK265.out 1).trans rfl, (blk_cell BK265.out 2).trans rfl, (blk_cell BK265.out 3).trans rfl, (blk_cell BK265.out 4).trans rfl, (blk_cell BK266.out 0).trans rfl, (blk_cell BK266.out 1).trans rfl, (blk_cell BK266.out 2).trans rfl, (blk_cell BK266.out 3).trans rfl, (blk_cell BK267.out 0).trans rfl, (blk_cell BK267.out 1).trans rfl, (blk_cell BK267.out 2).trans rfl, (blk_cell BK267.out 3).trans rfl⟩ (fun hHeld => ?_)
  clear hK K
  refine norm_ (a' := ?_) ?_ ?_
  rotate_left
  ·show Act.put _ (some 24) _ = _
   simp only [Act.put, List.setIfInBounds_toArray, List.set_cons_zero, List.set_cons_succ, i64_w, i32_w]
   rfl
  refine one_ (i := 5) (N := some 26) #[true, true, true, true, true, true, true, false, false, false, false, false] rfl rfl (one_of HT_.out (by kernel_rfl)) (by decide) (fun K hK => ?_)
  refine goes_ Tryz.func15 (by kernel_rfl) rfl #[.agg #[.int .i64 a2_0, .int .i64 a2_1, .int .i64 a2_2, .slice A2_3 l2_3.length c2_3]] (by rfl) rfl rfl (by (try simp only [List.map_toArray, List.map_cons, List.map_nil]); (rfl)) ?_
  with_reducible refine (hortatorlaw7_Task.calls a2_0 a2_1 a2_2 _ _ l2_3 t283 t284 t285 t286 _ ?side1 ?side2 A9.out).mono ?_
  (case side1 => repeat ((exact (Kd.C_below HR2_3.out HB.out))))
  (case side2 => exact HC2_3.out)
  rintro e w24 ⟨v287, rfl, ho0, hb⟩
  refine ⟨_, rfl, ?_⟩
  have HO288 := Aside0.mk (Kd.R_lower ho0 (below_size HB.out))
  replace HO275 := Aside0.mk (Kd.R_below HO275.out hb)
  replace HO282 := Aside0.mk (Kd.R_below HO282.out hb)
  replace BK264 := Aside0.mk (blk_below BK264.out hb)
  replace BK265 := Aside0.mk (blk_below BK265.out hb)
  replace BK266 := Aside0.mk (blk_below BK266.out hb)
  replace BK267 := Aside0.mk (blk_below BK267.out hb)
  replace HB := Aside0.mk (below_step HB.out hb)
  (try clear hb)
  (try clear hb2)
  (try clear hk)
  (try clear hi)
  (try clear ho0)
  refine hK.out _ _ ⟨(blk_cell BK264.out 0).trans rfl, (blk_cell BK264.out 1).trans rfl, (blk_cell BK264.out 2).trans rfl, (blk_cell BK264.out 3).trans rfl, (blk_cell BK264.out 4).trans rfl, (blk_cell BK265.out 0).trans rfl, (blk_cell BK265.out 1).trans rfl, (blk_cell BK265.out 2).trans rfl, (blk_cell BK265.out 3).trans rfl, (blk_cell BK265.out 4).trans rfl, (blk_cell BK266.out 0).trans rfl, (blk_cell BK266.out 1).trans rfl, (blk_cell BK266.out 2).trans rfl, (blk_cell BK266.out 3).trans rfl, (blk_cell BK267.out 0).trans rfl, (blk_cell BK267.out 1).trans rfl, (blk_cell BK267.out 2).trans rfl, (blk_cell BK267.out 3).trans rfl⟩ (fun hHeld => ?_)
  clear hK K
  refine norm_ (a' := ?_) ?_ ?_
  rotate_left
  ·show Act.put _ (some 26) _ = _
   simp only [Act.put, List.setIfInBounds_toArray, List.set_cons_zero, List.set_cons_succ, i64_w, i32_w]
   rfl
  refine one_ (i := 7) (N := some 28) #[true, true, true, true, true, true, true, true, false, false, false, false] rfl rfl (one_of HT_.out (by kernel_rfl)) (by decide) (fun K hK => ?_)
  refine goes_ Tryz.func15 (by kernel_rfl) rfl #[.agg #[.int .i64 a3_0, .int .i64 a3_1, .int .i64 a3_2, .slice A3_3 l3_3.length c3_3]] (by rfl) rfl rfl (by (try simp only [List.map_toArray, List.map_cons, List.map_nil]); (rfl)) ?_
  with_reducible refine (hortatorlaw7_Task.calls a3_0 a3_1 a3_2 _ _ l3_3 t289 t290 t291 t292 _ ?side1 ?side2 A10.out).mono ?_
  (case side1 => repeat ((exact (Kd.C_below HR3_3.out HB.out))))
  (case side2 => exact HC3_3.out)
  rintro e w25 ⟨v293, rfl, ho0, hb⟩
  refine ⟨_, rfl, ?_⟩
  have HO294 := Aside0.mk (Kd.R_lower (Kd.R_new' ho0 (Kd.R_lt HO288.out)) (below_size HB.out))
  replace HO275 := Aside0.mk (Kd.R_below HO275.out hb)
  replace HO282 := Aside0.mk (Kd.R_below HO282.out hb)
  replace HO288 := Aside0.mk (Kd.R_elder' HO288.out (Kd.R_base ho0) hb)
  replace BK264 := Aside0.mk (blk_below BK264.out hb)
  replace BK265 := Aside0.mk (blk_below BK265.out hb)
  replace BK266 := Aside0.mk (blk_below BK266.out hb)
  replace BK267 := Aside0.mk (blk_below BK267.out hb)
  replace HB := Aside0.mk (below_step HB.out hb)
  (try clear hb)
  (try clear hb2)
  (try clear hk)
  (try clear hi)
  (try clear ho0)
  obtain ⟨Ao30, co30, eo30⟩ := Kd.R_slice HO275.out
  ((subst eo30))
  obtain ⟨Ao36, co36, eo36⟩ := Kd.R_slice HO282.out
  ((subst eo36))
  obtain ⟨Ao41, co41, eo41⟩ := Kd.R_slice HO288.out
  ((subst eo41))
  obtain ⟨Ao46, co46, eo46⟩ := Kd.R_slice HO294.out
  ((subst eo46))
  refine hK.out _ _ ⟨(blk_cell BK264.out 0).trans rfl, (blk_cell BK264.out 1).trans rfl, (blk_cell BK264.out 2).trans rfl, (blk_cell BK264.out 3).trans rfl, (blk_cell BK264.out 4).trans rfl, (blk_cell BK265.out 0).trans rfl, (blk_cell BK265.out 1).trans rfl, (blk_cell BK265.out 2).trans rfl, (blk_cell BK265.out 3).trans rfl, (blk_cell BK265.out 4).trans rfl, (blk_cell BK266.out 0).trans rfl, (blk_cell BK266.out 1).trans rfl, (blk_cell BK266.out 2).trans rfl, (blk_cell BK266.out 3).trans rfl, (blk_cell BK267.out 0).trans rfl, (blk_cell BK267.out 1).trans rfl, (blk_cell BK267.out 2).trans rfl, (blk_cell BK267.out 3).trans rfl⟩ (fun hHeld => ?_)
  clear hK K
  refine norm_ (a' := ?_) ?_ ?_
  rotate_left
  ·show Act.put _ (some 28) _ = _
   simp only [Act.put, List.setIfInBounds_toArray, List.set_cons_zero, List.set_cons_succ, i64_w, i32_w]
   rfl
  refine last_ (i := 8) (N := none) #[true, true, true, true, true, true, true, true, true, false, false, false] rfl rfl (one_of HT_.out (by kernel_rfl)) (by decide) (fun K hK => ?_)
  have hs26 : w25.cell? ⟨gb264, 0, none⟩ = some (.int .i64 a0_0) := (blk_cell BK264.out 0).trans rfl
  have hfs26 := blk_frozen BK264.out 0
  have hns26_1 := NB265_264.out
  have hns26_2 := NB266_264.out
  have hns26_3 := NB267_264.out
  have hms26_1 := NB264_265.out
  have hms26_2 := NB264_266.out
  have hms26_3 := NB264_267.out
  have hs27 : w25.cell? ⟨gb264, 1, none⟩ = some (.int .i64 a0_1) := (blk_cell BK264.out 1).trans rfl
  have hfs27 := blk_frozen BK264.out 1
  have hns27_1 := NB265_264.out
  have hns27_2 := NB266_264.out
  have hns27_3 := NB267_264.out
  have hms27_1 := NB264_265.out
  have hms27_2 := NB264_266.out
  have hms27_3 := NB264_267.out
  have hs28 : w25.cell? ⟨gb264, 2, none⟩ = some (.int .i64 a0_2) := (blk_cell BK264.out 2).trans rfl
  have hfs28 := blk_frozen BK264.out 2
  have hns28_1 := NB265_264.out
  have hns28_2 := NB266_264.out
  have hns28_3 := NB267_264.out
  have hms28_1 := NB264_265.out
  have hms28_2 := NB264_266.out
  have hms28_3 := NB264_267.out
  have hs29 : w25.cell? ⟨gb264, 3, none⟩ = some (.int .i64 a0_3) := (blk_cell BK264.out 3).trans rfl
  have hfs29 := blk_frozen BK264.out 3
  have hns29_1 := NB265_264.out
  have hns29_2 := NB266_264.out
  have hns29_3 := NB267_264.out
  have hms29_1 := NB264_265.out
  have hms29_2 := NB264_266.out
  have hms29_3 := NB264_267.out
  have hs31 : w25.cell? ⟨gb264, 4, none⟩ = some (.slice A0_4 l0_4.length c0_4) := (blk_cell BK264.out 4).trans rfl
  have hfs31 := blk_frozen BK264.out 4
  have hns31_1 := NB265_264.out
  have hns31_2 := NB266_264.out
  have hns31_3 := NB267_264.out
  have hms31_1 := NB264_265.out
  have hms31_2 := NB264_266.out
  have hms31_3 := NB264_267.out
  refine skip_ (w1 := ?_) (by rfl) rfl ?_ ?_
  rotate_left
  ·go_simp
   rfl
  refine hK.out _ _ ?_
  clear hK K
  obtain ⟨w25a, hw_⟩ : ∃ W_, W_ = (((((w25.setCell ⟨gb264, 0, none⟩ (.int .i64 t269)).setCell ⟨gb264, 1, none⟩ (.int .i64 t270)).setCell ⟨gb264, 2, none⟩ (.int .i64 t271)).setCell ⟨gb264, 3, none⟩ (.int .i64 t272)).setCell ⟨gb264, 4, none⟩ (.slice Ao30 t273.length co30)) := ⟨_, rfl⟩
  have n0_ : Aside0 (Kd.R (Kd.int .i64) 3 w25a w.heap.size (fun k_ => some k_ ≠ (.slice Ao36 t280.length co36 : Value).ownBlock) (.slice Ao30 t273.length co30) t273) := ⟨by rw [hw_]; exact Kd.R_mono (Kd.R_far (p := ⟨gb264, 4, none⟩) (Kd.R_far (p := ⟨gb264, 3, none⟩) (Kd.R_far (p := ⟨gb264, 2, none⟩) (Kd.R_far (p := ⟨gb264, 1, none⟩) (Kd.R_far (p := ⟨gb264, 0, none⟩) (Kd.R_types HO275.out BK264.out (by decide)) (fun _ hk => hk.2) (.int .i64 t269)) (fun _ hk => hk.2) (.int .i64 t270)) (fun _ hk => hk.2) (.int .i64 t271)) (fun _ hk => hk.2) (.int .i64 t272)) (fun _ hk => hk.2) (.slice Ao30 t273.length co30)) (fun _ hk => hk.1.2)⟩
  have n1_ : Aside0 (Kd.R (Kd.int .i64) 3 w25a w.heap.size (fun k_ => some k_ ≠ (.slice Ao30 t273.length co30 : Value).ownBlock) (.slice Ao36 t280.length co36) t280) := ⟨by rw [hw_]; exact Kd.R_mono (Kd.R_far (p := ⟨gb264, 4, none⟩) (Kd.R_far (p := ⟨gb264, 3, none⟩) (Kd.R_far (p := ⟨gb264, 2, none⟩) (Kd.R_far (p := ⟨gb264, 1, none⟩) (Kd.R_far (p := ⟨gb264, 0, none⟩) (Kd.R_types HO282.out BK264.out (by decide)) (fun _ hk => hk.2) (.int .i64 t269)) (fun _ hk => hk.2) (.int .i64 t270)) (fun _ hk => hk.2) (.int .i64 t271)) (fun _ hk => hk.2) (.int .i64 t272)) (fun _ hk => hk.2) (.slice Ao30 t273.length co30)) (fun _ hk => hk.1.2)⟩
  have n2_ : Aside0 (Kd.R k43 43 w25a w.heap.size (fun k_ => some k_ ≠ (.slice Ao46 t292.length co46 : Value).ownBlock) (.slice Ao41 t286.length co41) t286) := ⟨by rw [hw_]; exact Kd.R_mono (Kd.R_far (p := ⟨gb264, 4, none⟩) (Kd.R_far (p := ⟨gb264, 3, none⟩) (Kd.R_far (p := ⟨gb264, 2, none⟩) (Kd.R_far (p := ⟨gb264, 1, none⟩) (Kd.R_far (p := ⟨gb264, 0, none⟩) (Kd.R_types HO288.out BK264.out (by decide)) (fun _ hk => hk.2) (.int .i64 t269)) (fun _ hk => hk.2) (.int .i64 t270)) (fun _ hk => hk.2) (.int .i64 t271)) (fun _ hk => hk.2) (.int .i64 t272)) (fun _ hk => hk.2) (.slice Ao30 t273.length co30)) (fun _ hk => hk.1.2)⟩
  have n3_ : Aside0 (Kd.R k43 43 w25a w.heap.size (fun k_ => some k_ ≠ (.slice Ao41 t286.length co41 : Value).ownBlock) (.slice Ao46 t292.length co46) t292) := ⟨by rw [hw_]; exact Kd.R_mono (Kd.R_far (p := ⟨gb264, 4, none⟩) (Kd.R_far (p := ⟨gb264, 3, none⟩) (Kd.R_far (p := ⟨gb264, 2, none⟩) (Kd.R_far (p := ⟨gb264, 1, none⟩) (Kd.R_far (p := ⟨gb264, 0, none⟩) (Kd.R_types HO294.out BK264.out (by decide)) (fun _ hk => hk.2) (.int .i64 t269)) (fun _ hk => hk.2) (.int .i64 t270)) (fun _ hk => hk.2) (.int .i64 t271)) (fun _ hk => hk.2) (.int .i64 t272)) (fun _ hk => hk.2) (.slice Ao30 t273.length co30)) (fun _ hk => hk.1.2)⟩
  have n4_ : Aside0 (w25a.heap[gb264]? = some (.cells #[.int .i64 t269, .int .i64 t270, .int .i64 t271, .int .i64 t272, .slice Ao30 t273.length co30] 24 (0, 0))) := ⟨by rw [hw_]; exact (blk_put (cs := #[.int .i64 t269, .int .i64 t270, .int .i64 t271, .int .i64 t272, .slice A0_4 l0_4.length c0_4]) (blk_put (cs := #[.int .i64 t269, .int .i64 t270, .int .i64 t271, .int .i64 a0_3, .slice A0_4 l0_4.length c0_4]) (blk_put (cs := #[.int .i64 t269, .int .i64 t270, .int .i64 a0_2, .int .i64 a0_3, .slice A0_4 l0_4.length c0_4]) (blk_put (cs := #[.int .i64 t269, .int .i64 a0_1, .int .i64 a0_2, .int .i64 a0_3, .slice A0_4 l0_4.length c0_4]) (blk_put (cs := #[.int .i64 a0_0, .int .i64 a0_1, .int .i64 a0_2, .int .i64 a0_3, .slice A0_4 l0_4.length c0_4]) BK264.out 0 _ rfl) 1 _ rfl) 2 _ rfl) 3 _ rfl) 4 _ rfl)⟩
  have n5_ := Aside0.mk (blk_far (p := ⟨gb264, 4, none⟩) (blk_far (p := ⟨gb264, 3, none⟩) (blk_far (p := ⟨gb264, 2, none⟩) (blk_far (p := ⟨gb264, 1, none⟩) (blk_far (p := ⟨gb264, 0, none⟩) BK265.out NB265_264.out (.int .i64 t269)) NB265_264.out (.int .i64 t270)) NB265_264.out (.int .i64 t271)) NB265_264.out (.int .i64 t272)) NB265_264.out (.slice Ao30 t273.length co30))
  rw [← hw_] at n5_
  have n6_ := Aside0.mk (blk_far (p := ⟨gb264, 4, none⟩) (blk_far (p := ⟨gb264, 3, none⟩) (blk_far (p := ⟨gb264, 2, none⟩) (blk_far (p := ⟨gb264, 1, none⟩) (blk_far (p := ⟨gb264, 0, none⟩) BK266.out NB266_264.out (.int .i64 t269)) NB266_264.out (.int .i64 t270)) NB266_264.out (.int .i64 t271)) NB266_264.out (.int .i64 t272)) NB266_264.out (.slice Ao30 t273.length co30))
  rw [← hw_] at n6_
  have n7_ := Aside0.mk (blk_far (p := ⟨gb264, 4, none⟩) (blk_far (p := ⟨gb264, 3, none⟩) (blk_far (p := ⟨gb264, 2, none⟩) (blk_far (p := ⟨gb264, 1, none⟩) (blk_far (p := ⟨gb264, 0, none⟩) BK267.out NB267_264.out (.int .i64 t269)) NB267_264.out (.int .i64 t270)) NB267_264.out (.int .i64 t271)) NB267_264.out (.int .i64 t272)) NB267_264.out (.slice Ao30 t273.length co30))
  rw [← hw_] at n7_
  have n8_ : Aside0 (Below w.heap.size w w25a) := ⟨by rw [hw_]; exact (below_set (j := 4) (v := .slice Ao30 t273.length co30) (below_set (j := 3) (v := .int .i64 t272) (below_set (j := 2) (v := .int .i64 t271) (below_set (j := 1) (v := .int .i64 t270) (below_set (j := 0) (v := .int .i64 t269) HB.out GE264.out) GE264.out) GE264.out) GE264.out) GE264.out)⟩
  rw [← hw_]
  clear hw_ HO275 HO282 HO288 HO294 BK264 BK265 BK266 BK267 HB
  have HO275 := n0_
  have HO282 := n1_
  have HO288 := n2_
  have HO294 := n3_
  have BK264 := n4_
  have BK265 := n5_
  have BK266 := n6_
  have BK267 := n7_
  have HB := n8_
  clear n0_ n1_ n2_ n3_ n4_ n5_ n6_ n7_ n8_
  refine last_ (i := 9) (N := none) #[true, true, true, true, true, true, true, true, true, true, false, false] rfl rfl (one_of HT_.out (by kernel_rfl)) (by decide) (fun K hK => ?_)
  have hs32 : w25a.cell? ⟨gb265, 0, none⟩ = some (.int .i64 a1_0) := (blk_cell BK265.out 0).trans rfl
  have hfs32 := blk_frozen BK265.out 0
  have hns32_0 := NB264_265.out
  have hns32_2 := NB266_265.out
  have hns32_3 := NB267_265.out
  have hms32_0 := NB265_264.out
  have hms32_2 := NB265_266.out
  have hms32_3 := NB265_267.out
  have hs33 : w25a.cell? ⟨gb265, 1, none⟩ = some (.int .i64 a1_1) := (blk_cell BK265.out 1).trans rfl
  have hfs33 := blk_frozen BK265.out 1
  have hns33_0 := NB264_265.out
  have hns33_2 := NB266_265.out
  have hns33_3 := NB267_265.out
  have hms33_0 := NB265_264.out
  have hms33_2 := NB265_266.out
  have hms33_3 := NB265_267.out
  have hs34 : w25a.cell? ⟨gb265, 2, none⟩ = some (.int .i64 a1_2) := (blk_cell BK265.out 2).trans rfl
  have hfs34 := blk_frozen BK265.out 2
  have hns34_0 := NB264_265.out
  have hns34_2 := NB266_265.out
  have hns34_3 := NB267_265.out
  have hms34_0 := NB265_264.out
  have hms34_2 := NB265_266.out
  have hms34_3 := NB265_267.out
  have hs35 : w25a.cell? ⟨gb265, 3, none⟩ = some (.int .i64 a1_3) := (blk_cell BK265.out 3).trans rfl
  have hfs35 := blk_frozen BK265.out 3
  have hns35_0 := NB264_265.out
  have hns35_2 := NB266_265.out
  have hns35_3 := NB267_265.out
  have hms35_0 := NB265_264.out
  have hms35_2 := NB265_266.out
  have hms35_3 := NB265_267.out
  have hs37 : w25a.cell? ⟨gb265, 4, none⟩ = some (.slice A1_4 l1_4.length c1_4) := (blk_cell BK265.out 4).trans rfl
  have hfs37 := blk_frozen BK265.out 4
  have hns37_0 := NB264_265.out
  have hns37_2 := NB266_265.out
  have hns37_3 := NB267_265.out
  have hms37_0 := NB265_264.out
  have hms37_2 := NB265_266.out
  have hms37_3 := NB265_267.out
  refine skip_ (w1 := ?_) (by rfl) rfl ?_ ?_
  rotate_left
  ·go_simp
   rfl
  refine hK.out _ _ ?_
  clear hK K
  obtain ⟨w25b, hw_⟩ : ∃ W_, W_ = (((((w25a.setCell ⟨gb265, 0, none⟩ (.int .i64 t276)).setCell ⟨gb265, 1, none⟩ (.int .i64 t277)).setCell ⟨gb265, 2, none⟩ (.int .i64 t278)).setCell ⟨gb265, 3, none⟩ (.int .i64 t279)).setCell ⟨gb265, 4, none⟩ (.slice Ao36 t280.length co36)) := ⟨_, rfl⟩
  have n0_ : Aside0 (Kd.R (Kd.int .i64) 3 w25b w.heap.size (fun k_ => some k_ ≠ (.slice Ao36 t280.length co36 : Value).ownBlock) (.slice Ao30 t273.length co30) t273) := ⟨by rw [hw_]; exact Kd.R_mono (Kd.R_far (p := ⟨gb265, 4, none⟩) (Kd.R_far (p := ⟨gb265, 3, none⟩) (Kd.R_far (p := ⟨gb265, 2, none⟩) (Kd.R_far (p := ⟨gb265, 1, none⟩) (Kd.R_far (p := ⟨gb265, 0, none⟩) (Kd.R_types HO275.out BK265.out (by decide)) (fun _ hk => hk.2) (.int .i64 t276)) (fun _ hk => hk.2) (.int .i64 t277)) (fun _ hk => hk.2) (.int .i64 t278)) (fun _ hk => hk.2) (.int .i64 t279)) (fun _ hk => hk.2) (.slice Ao36 t280.length co36)) (fun _ hk => hk.1)⟩
  have n1_ : Aside0 (Kd.R (Kd.int .i64) 3 w25b w.heap.size (fun k_ => some k_ ≠ (.slice Ao30 t273.length co30 : Value).ownBlock) (.slice Ao36 t280.length co36) t280) := ⟨by rw [hw_]; exact Kd.R_mono (Kd.R_far (p := ⟨gb265, 4, none⟩) (Kd.R_far (p := ⟨gb265, 3, none⟩) (Kd.R_far (p := ⟨gb265, 2, none⟩) (Kd.R_far (p := ⟨gb265, 1, none⟩) (Kd.R_far (p := ⟨gb265, 0, none⟩) (Kd.R_types HO282.out BK265.out (by decide)) (fun _ hk => hk.2) (.int .i64 t276)) (fun _ hk => hk.2) (.int .i64 t277)) (fun _ hk => hk.2) (.int .i64 t278)) (fun _ hk => hk.2) (.int .i64 t279)) (fun _ hk => hk.2) (.slice Ao36 t280.length co36)) (fun _ hk => hk.1)⟩
  have n2_ : Aside0 (Kd.R k43 43 w25b w.heap.size (fun k_ => some k_ ≠ (.slice Ao46 t292.length co46 : Value).ownBlock) (.slice Ao41 t286.length co41) t286) := ⟨by rw [hw_]; exact Kd.R_mono (Kd.R_far (p := ⟨gb265, 4, none⟩) (Kd.R_far (p := ⟨gb265, 3, none⟩) (Kd.R_far (p := ⟨gb265, 2, none⟩) (Kd.R_far (p := ⟨gb265, 1, none⟩) (Kd.R_far (p := ⟨gb265, 0, none⟩) (Kd.R_types HO288.out BK265.out (by decide)) (fun _ hk => hk.2) (.int .i64 t276)) (fun _ hk => hk.2) (.int .i64 t277)) (fun _ hk => hk.2) (.int .i64 t278)) (fun _ hk => hk.2) (.int .i64 t279)) (fun _ hk => hk.2) (.slice Ao36 t280.length co36)) (fun _ hk => hk.1)⟩
  have n3_ : Aside0 (Kd.R k43 43 w25b w.heap.size (fun k_ => some k_ ≠ (.slice Ao41 t286.length co41 : Value).ownBlock) (.slice Ao46 t292.length co46) t292) := ⟨by rw [hw_]; exact Kd.R_mono (Kd.R_far (p := ⟨gb265, 4, none⟩) (Kd.R_far (p := ⟨gb265, 3, none⟩) (Kd.R_far (p := ⟨gb265, 2, none⟩) (Kd.R_far (p := ⟨gb265, 1, none⟩) (Kd.R_far (p := ⟨gb265, 0, none⟩) (Kd.R_types HO294.out BK265.out (by decide)) (fun _ hk => hk.2) (.int .i64 t276)) (fun _ hk => hk.2) (.int .i64 t277)) (fun _ hk => hk.2) (.int .i64 t278)) (fun _ hk => hk.2) (.int .i64 t279)) (fun _ hk => hk.2) (.slice Ao36 t280.length co36)) (fun _ hk => hk.1)⟩
  have n4_ := Aside0.mk (blk_far (p := ⟨gb265, 4, none⟩) (blk_far (p := ⟨gb265, 3, none⟩) (blk_far (p := ⟨gb265, 2, none⟩) (blk_far (p := ⟨gb265, 1, none⟩) (blk_far (p := ⟨gb265, 0, none⟩) BK264.out NB264_265.out (.int .i64 t276)) NB264_265.out (.int .i64 t277)) NB264_265.out (.int .i64 t278)) NB264_265.out (.int .i64 t279)) NB264_265.out (.slice Ao36 t280.length co36))
  rw [← hw_] at n4_
  have n5_ : Aside0 (w25b.heap[gb265]? = some (.cells #[.int .i64 t276, .int .i64 t277, .int .i64 t278, .int .i64 t279, .slice Ao36 t280.length co36] 24 (0, 0))) := ⟨by rw [hw_]; exact (blk_put (cs := #[.int .i64 t276, .int .i64 t277, .int .i64 t278, .int .i64 t279, .slice A1_4 l1_4.length c1_4]) (blk_put (cs := #[.int .i64 t276, .int .i64 t277, .int .i64 t278, .int .i64 a1_3, .slice A1_4 l1_4.length c1_4]) (blk_put (cs := #[.int .i64 t276, .int .i64 t277, .int .i64 a1_2, .int .i64 a1_3, .slice A1_4 l1_4.length c1_4]) (blk_put (cs := #[.int .i64 t276, .int .i64 a1_1, .int .i64 a1_2, .int .i64 a1_3, .slice A1_4 l1_4.length c1_4]) (blk_put (cs := #[.int .i64 a1_0, .int .i64 a1_1, .int .i64 a1_2, .int .i64 a1_3, .slice A1_4 l1_4.length c1_4]) BK265.out 0 _ rfl) 1 _ rfl) 2 _ rfl) 3 _ rfl) 4 _ rfl)⟩
  have n6_ := Aside0.mk (blk_far (p := ⟨gb265, 4, none⟩) (blk_far (p := ⟨gb265, 3, none⟩) (blk_far (p := ⟨gb265, 2, none⟩) (blk_far (p := ⟨gb265, 1, none⟩) (blk_far (p := ⟨gb265, 0, none⟩) BK266.out NB266_265.out (.int .i64 t276)) NB266_265.out (.int .i64 t277)) NB266_265.out (.int .i64 t278)) NB266_265.out (.int .i64 t279)) NB266_265.out (.slice Ao36 t280.length co36))
  rw [← hw_] at n6_
  have n7_ := Aside0.mk (blk_far (p := ⟨gb265, 4, none⟩) (blk_far (p := ⟨gb265, 3, none⟩) (blk_far (p := ⟨gb265, 2, none⟩) (blk_far (p := ⟨gb265, 1, none⟩) (blk_far (p := ⟨gb265, 0, none⟩) BK267.out NB267_265.out (.int .i64 t276)) NB267_265.out (.int .i64 t277)) NB267_265.out (.int .i64 t278)) NB267_265.out (.int .i64 t279)) NB267_265.out (.slice Ao36 t280.length co36))
  rw [← hw_] at n7_
  have n8_ : Aside0 (Below w.heap.size w w25b) := ⟨by rw [hw_]; exact (below_set (j := 4) (v := .slice Ao36 t280.length co36) (below_set (j := 3) (v := .int .i64 t279) (below_set (j := 2) (v := .int .i64 t278) (below_set (j := 1) (v := .int .i64 t277) (below_set (j := 0) (v := .int .i64 t276) HB.out GE265.out) GE265.out) GE265.out) GE265.out) GE265.out)⟩
  rw [← hw_]
  clear hw_ HO275 HO282 HO288 HO294 BK264 BK265 BK266 BK267 HB
  have HO275 := n0_
  have HO282 := n1_
  have HO288 := n2_
  have HO294 := n3_
  have BK264 := n4_
  have BK265 := n5_
  have BK266 := n6_
  have BK267 := n7_
  have HB := n8_
  clear n0_ n1_ n2_ n3_ n4_ n5_ n6_ n7_ n8_
  refine last_ (i := 10) (N := none) #[true, true, true, true, true, true, true, true, true, true, true, false] rfl rfl (one_of HT_.out (by kernel_rfl)) (by decide) (fun K hK => ?_)
  have hs38 : w25b.cell? ⟨gb266, 0, none⟩ = some (.int .i64 a2_0) := (blk_cell BK266.out 0).trans rfl
  have hfs38 := blk_frozen BK266.out 0
  have hns38_0 := NB264_266.out
  have hns38_1 := NB265_266.out
  have hns38_3 := NB267_266.out
  have hms38_0 := NB266_264.out
  have hms38_1 := NB266_265.out
  have hms38_3 := NB266_267.out
  have hs39 : w25b.cell? ⟨gb266, 1, none⟩ = some (.int .i64 a2_1) := (blk_cell BK266.out 1).trans rfl
  have hfs39 := blk_frozen BK266.out 1
  have hns39_0 := NB264_266.out
  have hns39_1 := NB265_266.out
  have hns39_3 := NB267_266.out
  have hms39_0 := NB266_264.out
  have hms39_1 := NB266_265.out
  have hms39_3 := NB266_267.out
  have hs40 : w25b.cell? ⟨gb266, 2, none⟩ = some (.int .i64 a2_2) := (blk_cell BK266.out 2).trans rfl
  have hfs40 := blk_frozen BK266.out 2
  have hns40_0 := NB264_266.out
  have hns40_1 := NB265_266.out
  have hns40_3 := NB267_266.out
  have hms40_0 := NB266_264.out
  have hms40_1 := NB266_265.out
  have hms40_3 := NB266_267.out
  have hs42 : w25b.cell? ⟨gb266, 3, none⟩ = some (.slice A2_3 l2_3.length c2_3) := (blk_cell BK266.out 3).trans rfl
  have hfs42 := blk_frozen BK266.out 3
  have hns42_0 := NB264_266.out
  have hns42_1 := NB265_266.out
  have hns42_3 := NB267_266.out
  have hms42_0 := NB266_264.out
  have hms42_1 := NB266_265.out
  have hms42_3 := NB266_267.out
  refine skip_ (w1 := ?_) (by rfl) rfl ?_ ?_
  rotate_left
  ·go_simp
   rfl
  refine hK.out _ _ ?_
  clear hK K
  obtain ⟨w25c, hw_⟩ : ∃ W_, W_ = ((((w25b.setCell ⟨gb266, 0, none⟩ (.int .i64 t283)).setCell ⟨gb266, 1, none⟩ (.int .i64 t284)).setCell ⟨gb266, 2, none⟩ (.int .i64 t285)).setCell ⟨gb266, 3, none⟩ (.slice Ao41 t286.length co41)) := ⟨_, rfl⟩
  have n0_ : Aside0 (Kd.R (Kd.int .i64) 3 w25c w.heap.size (fun k_ => some k_ ≠ (.slice Ao36 t280.length co36 : Value).ownBlock) (.slice Ao30 t273.length co30) t273) := ⟨by rw [hw_]; exact Kd.R_mono (Kd.R_far (p := ⟨gb266, 3, none⟩) (Kd.R_far (p := ⟨gb266, 2, none⟩) (Kd.R_far (p := ⟨gb266, 1, none⟩) (Kd.R_far (p := ⟨gb266, 0, none⟩) (Kd.R_types HO275.out BK266.out (by decide)) (fun _ hk => hk.2) (.int .i64 t283)) (fun _ hk => hk.2) (.int .i64 t284)) (fun _ hk => hk.2) (.int .i64 t285)) (fun _ hk => hk.2) (.slice Ao41 t286.length co41)) (fun _ hk => hk.1)⟩
  have n1_ : Aside0 (Kd.R (Kd.int .i64) 3 w25c w.heap.size (fun k_ => some k_ ≠ (.slice Ao30 t273.length co30 : Value).ownBlock) (.slice Ao36 t280.length co36) t280) := ⟨by rw [hw_]; exact Kd.R_mono (Kd.R_far (p := ⟨gb266, 3, none⟩) (Kd.R_far (p := ⟨gb266, 2, none⟩) (Kd.R_far (p := ⟨gb266, 1, none⟩) (Kd.R_far (p := ⟨gb266, 0, none⟩) (Kd.R_types HO282.out BK266.out (by decide)) (fun _ hk => hk.2) (.int .i64 t283)) (fun _ hk => hk.2) (.int .i64 t284)) (fun _ hk => hk.2) (.int .i64 t285)) (fun _ hk => hk.2) (.slice Ao41 t286.length co41)) (fun _ hk => hk.1)⟩
  have n2_ : Aside0 (Kd.R k43 43 w25c w.heap.size (fun k_ => some k_ ≠ (.slice Ao46 t292.length co46 : Value).ownBlock) (.slice Ao41 t286.length co41) t286) := ⟨by rw [hw_]; exact Kd.R_mono (Kd.R_far (p := ⟨gb266, 3, none⟩) (Kd.R_far (p := ⟨gb266, 2, none⟩) (Kd.R_far (p := ⟨gb266, 1, none⟩) (Kd.R_far (p := ⟨gb266, 0, none⟩) (Kd.R_types HO288.out BK266.out (by decide)) (fun _ hk => hk.2) (.int .i64 t283)) (fun _ hk => hk.2) (.int .i64 t284)) (fun _ hk => hk.2) (.int .i64 t285)) (fun _ hk => hk.2) (.slice Ao41 t286.length co41)) (fun _ hk => hk.1)⟩
  have n3_ : Aside0 (Kd.R k43 43 w25c w.heap.size (fun k_ => some k_ ≠ (.slice Ao41 t286.length co41 : Value).ownBlock) (.slice Ao46 t292.length co46) t292) := ⟨by rw [hw_]; exact Kd.R_mono (Kd.R_far (p := ⟨gb266, 3, none⟩) (Kd.R_far (p := ⟨gb266, 2, none⟩) (Kd.R_far (p := ⟨gb266, 1, none⟩) (Kd.R_far (p := ⟨gb266, 0, none⟩) (Kd.R_types HO294.out BK266.out (by decide)) (fun _ hk => hk.2) (.int .i64 t283)) (fun _ hk => hk.2) (.int .i64 t284)) (fun _ hk => hk.2) (.int .i64 t285)) (fun _ hk => hk.2) (.slice Ao41 t286.length co41)) (fun _ hk => hk.1)⟩
  have n4_ := Aside0.mk (blk_far (p := ⟨gb266, 3, none⟩) (blk_far (p := ⟨gb266, 2, none⟩) (blk_far (p := ⟨gb266, 1, none⟩) (blk_far (p := ⟨gb266, 0, none⟩) BK264.out NB264_266.out (.int .i64 t283)) NB264_266.out (.int .i64 t284)) NB264_266.out (.int .i64 t285)) NB264_266.out (.slice Ao41 t286.length co41))
  rw [← hw_] at n4_
  have n5_ := Aside0.mk (blk_far (p := ⟨gb266, 3, none⟩) (blk_far (p := ⟨gb266, 2, none⟩) (blk_far (p := ⟨gb266, 1, none⟩) (blk_far (p := ⟨gb266, 0, none⟩) BK265.out NB265_266.out (.int .i64 t283)) NB265_266.out (.int .i64 t284)) NB265_266.out (.int .i64 t285)) NB265_266.out (.slice Ao41 t286.length co41))
  rw [← hw_] at n5_
  have n6_ : Aside0 (w25c.heap[gb266]? = some (.cells #[.int .i64 t283, .int .i64 t284, .int .i64 t285, .slice Ao41 t286.length co41] 27 (0, 0))) := ⟨by rw [hw_]; exact (blk_put (cs := #[.int .i64 t283, .int .i64 t284, .int .i64 t285, .slice A2_3 l2_3.length c2_3]) (blk_put (cs := #[.int .i64 t283, .int .i64 t284, .int .i64 a2_2, .slice A2_3 l2_3.length c2_3]) (blk_put (cs := #[.int .i64 t283, .int .i64 a2_1, .int .i64 a2_2, .slice A2_3 l2_3.length c2_3]) (blk_put (cs := #[.int .i64 a2_0, .int .i64 a2_1, .int .i64 a2_2, .slice A2_3 l2_3.length c2_3]) BK266.out 0 _ rfl) 1 _ rfl) 2 _ rfl) 3 _ rfl)⟩
  have n7_ := Aside0.mk (blk_far (p := ⟨gb266, 3, none⟩) (blk_far (p := ⟨gb266, 2, none⟩) (blk_far (p := ⟨gb266, 1, none⟩) (blk_far (p := ⟨gb266, 0, none⟩) BK267.out NB267_266.out (.int .i64 t283)) NB267_266.out (.int .i64 t284)) NB267_266.out (.int .i64 t285)) NB267_266.out (.slice Ao41 t286.length co41))
  rw [← hw_] at n7_
  have n8_ : Aside0 (Below w.heap.size w w25c) := ⟨by rw [hw_]; exact (below_set (j := 3) (v := .slice Ao41 t286.length co41) (below_set (j := 2) (v := .int .i64 t285) (below_set (j := 1) (v := .int .i64 t284) (below_set (j := 0) (v := .int .i64 t283) HB.out GE266.out) GE266.out) GE266.out) GE266.out)⟩
  rw [← hw_]
  clear hw_ HO275 HO282 HO288 HO294 BK264 BK265 BK266 BK267 HB
  have HO275 := n0_
  have HO282 := n1_
  have HO288 := n2_
  have HO294 := n3_
  have BK264 := n4_
  have BK265 := n5_
  have BK266 := n6_
  have BK267 := n7_
  have HB := n8_
  clear n0_ n1_ n2_ n3_ n4_ n5_ n6_ n7_ n8_
  refine last_ (i := 11) (N := none) #[true, true, true, true, true, true, true, true, true, true, true, true] rfl rfl (one_of HT_.out (by kernel_rfl)) (by decide) (fun K hK => ?_)
  have hs43 : w25c.cell? ⟨gb267, 0, none⟩ = some (.int .i64 a3_0) := (blk_cell BK267.out 0).trans rfl
  have hfs43 := blk_frozen BK267.out 0
  have hns43_0 := NB264_267.out
  have hns43_1 := NB265_267.out
  have hns43_2 := NB266_267.out
  have hms43_0 := NB267_264.out
  have hms43_1 := NB267_265.out
  have hms43_2 := NB267_266.out
  have hs44 : w25c.cell? ⟨gb267, 1, none⟩ = some (.int .i64 a3_1) := (blk_cell BK267.out 1).trans rfl
  have hfs44 := blk_frozen BK267.out 1
  have hns44_0 := NB264_267.out
  have hns44_1 := NB265_267.out
  have hns44_2 := NB266_267.out
  have hms44_0 := NB267_264.out
  have hms44_1 := NB267_265.out
  have hms44_2 := NB267_266.out
  have hs45 : w25c.cell? ⟨gb267, 2, none⟩ = some (.int .i64 a3_2) := (blk_cell BK267.out 2).trans rfl
  have hfs45 := blk_frozen BK267.out 2
  have hns45_0 := NB264_267.out
  have hns45_1 := NB265_267.out
  have hns45_2 := NB266_267.out
  have hms45_0 := NB267_264.out
  have hms45_1 := NB267_265.out
  have hms45_2 := NB267_266.out
  have hs47 : w25c.cell? ⟨gb267, 3, none⟩ = some (.slice A3_3 l3_3.length c3_3) := (blk_cell BK267.out 3).trans rfl
  have hfs47 := blk_frozen BK267.out 3
  have hns47_0 := NB264_267.out
  have hns47_1 := NB265_267.out
  have hns47_2 := NB266_267.out
  have hms47_0 := NB267_264.out
  have hms47_1 := NB267_265.out
  have hms47_2 := NB267_266.out
  refine skip_ (w1 := ?_) (by rfl) rfl ?_ ?_
  rotate_left
  ·go_simp
   rfl
  refine hK.out _ _ ?_
  clear hK K
  obtain ⟨w25d, hw_⟩ : ∃ W_, W_ = ((((w25c.setCell ⟨gb267, 0, none⟩ (.int .i64 t289)).setCell ⟨gb267, 1, none⟩ (.int .i64 t290)).setCell ⟨gb267, 2, none⟩ (.int .i64 t291)).setCell ⟨gb267, 3, none⟩ (.slice Ao46 t292.length co46)) := ⟨_, rfl⟩
  have n0_ : Aside0 (Kd.R (Kd.int .i64) 3 w25d w.heap.size (fun k_ => some k_ ≠ (.slice Ao36 t280.length co36 : Value).ownBlock) (.slice Ao30 t273.length co30) t273) := ⟨by rw [hw_]; exact Kd.R_mono (Kd.R_far (p := ⟨gb267, 3, none⟩) (Kd.R_far (p := ⟨gb267, 2, none⟩) (Kd.R_far (p := ⟨gb267, 1, none⟩) (Kd.R_far (p := ⟨gb267, 0, none⟩) (Kd.R_types HO275.out BK267.out (by decide)) (fun _ hk => hk.2) (.int .i64 t289)) (fun _ hk => hk.2) (.int .i64 t290)) (fun _ hk => hk.2) (.int .i64 t291)) (fun _ hk => hk.2) (.slice Ao46 t292.length co46)) (fun _ hk => hk.1)⟩
  have n1_ : Aside0 (Kd.R (Kd.int .i64) 3 w25d w.heap.size (fun k_ => some k_ ≠ (.slice Ao30 t273.length co30 : Value).ownBlock) (.slice Ao36 t280.length co36) t280) := ⟨by rw [hw_]; exact Kd.R_mono (Kd.R_far (p := ⟨gb267, 3, none⟩) (Kd.R_far (p := ⟨gb267, 2, none⟩) (Kd.R_far (p := ⟨gb267, 1, none⟩) (Kd.R_far (p := ⟨gb267, 0, none⟩) (Kd.R_types HO282.out BK267.out (by decide)) (fun _ hk => hk.2) (.int .i64 t289)) (fun _ hk => hk.2) (.int .i64 t290)) (fun _ hk => hk.2) (.int .i64 t291)) (fun _ hk => hk.2) (.slice Ao46 t292.length co46)) (fun _ hk => hk.1)⟩
  have n2_ : Aside0 (Kd.R k43 43 w25d w.heap.size (fun k_ => some k_ ≠ (.slice Ao46 t292.length co46 : Value).ownBlock) (.slice Ao41 t286.length co41) t286) := ⟨by rw [hw_]; exact Kd.R_mono (Kd.R_far (p := ⟨gb267, 3, none⟩) (Kd.R_far (p := ⟨gb267, 2, none⟩) (Kd.R_far (p := ⟨gb267, 1, none⟩) (Kd.R_far (p := ⟨gb267, 0, none⟩) (Kd.R_types HO288.out BK267.out (by decide)) (fun _ hk => hk.2) (.int .i64 t289)) (fun _ hk => hk.2) (.int .i64 t290)) (fun _ hk => hk.2) (.int .i64 t291)) (fun _ hk => hk.2) (.slice Ao46 t292.length co46)) (fun _ hk => hk.1)⟩
  have n3_ : Aside0 (Kd.R k43 43 w25d w.heap.size (fun k_ => some k_ ≠ (.slice Ao41 t286.length co41 : Value).ownBlock) (.slice Ao46 t292.length co46) t292) := ⟨by rw [hw_]; exact Kd.R_mono (Kd.R_far (p := ⟨gb267, 3, none⟩) (Kd.R_far (p := ⟨gb267, 2, none⟩) (Kd.R_far (p := ⟨gb267, 1, none⟩) (Kd.R_far (p := ⟨gb267, 0, none⟩) (Kd.R_types HO294.out BK267.out (by decide)) (fun _ hk => hk.2) (.int .i64 t289)) (fun _ hk => hk.2) (.int .i64 t290)) (fun _ hk => hk.2) (.int .i64 t291)) (fun _ hk => hk.2) (.slice Ao46 t292.length co46)) (fun _ hk => hk.1)⟩
  have n4_ := Aside0.mk (blk_far (p := ⟨gb267, 3, none⟩) (blk_far (p := ⟨gb267, 2, none⟩) (blk_far (p := ⟨gb267, 1, none⟩) (blk_far (p := ⟨gb267, 0, none⟩) BK264.out NB264_267.out (.int .i64 t289)) NB264_267.out (.int .i64 t290)) NB264_267.out (.int .i64 t291)) NB264_267.out (.slice Ao46 t292.length co46))
  rw [← hw_] at n4_
  have n5_ := Aside0.mk (blk_far (p := ⟨gb267, 3, none⟩) (blk_far (p := ⟨gb267, 2, none⟩) (blk_far (p := ⟨gb267, 1, none⟩) (blk_far (p := ⟨gb267, 0, none⟩) BK265.out NB265_267.out (.int .i64 t289)) NB265_267.out (.int .i64 t290)) NB265_267.out (.int .i64 t291)) NB265_267.out (.slice Ao46 t292.length co46))
  rw [← hw_] at n5_
  have n6_ := Aside0.mk (blk_far (p := ⟨gb267, 3, none⟩) (blk_far (p := ⟨gb267, 2, none⟩) (blk_far (p := ⟨gb267, 1, none⟩) (blk_far (p := ⟨gb267, 0, none⟩) BK266.out NB266_267.out (.int .i64 t289)) NB266_267.out (.int .i64 t290)) NB266_267.out (.int .i64 t291)) NB266_267.out (.slice Ao46 t292.length co46))
  rw [← hw_] at n6_
  have n7_ : Aside0 (w25d.heap[gb267]? = some (.cells #[.int .i64 t289, .int .i64 t290, .int .i64 t291, .slice Ao46 t292.length co46] 27 (0, 0))) := ⟨by rw [hw_]; exact (blk_put (cs := #[.int .i64 t289, .int .i64 t290, .int .i64 t291, .slice A3_3 l3_3.length c3_3]) (blk_put (cs := #[.int .i64 t289, .int .i64 t290, .int .i64 a3_2, .slice A3_3 l3_3.length c3_3]) (blk_put (cs := #[.int .i64 t289, .int .i64 a3_1, .int .i64 a3_2, .slice A3_3 l3_3.length c3_3]) (blk_put (cs := #[.int .i64 a3_0, .int .i64 a3_1, .int .i64 a3_2, .slice A3_3 l3_3.length c3_3]) BK267.out 0 _ rfl) 1 _ rfl) 2 _ rfl) 3 _ rfl)⟩
  have n8_ : Aside0 (Below w.heap.size w w25d) := ⟨by rw [hw_]; exact (below_set (j := 3) (v := .slice Ao46 t292.length co46) (below_set (j := 2) (v := .int .i64 t291) (below_set (j := 1) (v := .int .i64 t290) (below_set (j := 0) (v := .int .i64 t289) HB.out GE267.out) GE267.out) GE267.out) GE267.out)⟩
  rw [← hw_]
  clear hw_ HO275 HO282 HO288 HO294 BK264 BK265 BK266 BK267 HB
  have HO275 := n0_
  have HO282 := n1_
  have HO288 := n2_
  have HO294 := n3_
  have BK264 := n4_
  have BK265 := n5_
  have BK266 := n6_
  have BK267 := n7_
  have HB := n8_
  clear n0_ n1_ n2_ n3_ n4_ n5_ n6_ n7_ n8_
  refine done_ (done_of HT_.out (by kernel_rfl)) ?_
  try go_wp2
  generalize w25d = w48 at HO275 HO282 HO288 HO294 BK264 BK265 BK266 BK267 HB ⊢
  replace HO275 := Aside0.mk (Kd.R_drew HO275.out)
  replace HO282 := Aside0.mk (Kd.R_drew HO282.out)
  replace HO288 := Aside0.mk (Kd.R_drew HO288.out)
  replace HO294 := Aside0.mk (Kd.R_drew HO294.out)
  replace BK264 := Aside0.mk (blk_drew BK264.out)
  replace BK265 := Aside0.mk (blk_drew BK265.out)
  replace BK266 := Aside0.mk (blk_drew BK266.out)
  replace BK267 := Aside0.mk (blk_drew BK267.out)
  replace HB := Aside0.mk (below_drew1 HB.out)
  refine start_ (n := 6) (S := fun w' => w'.cell? ⟨gb264, 0, none⟩ = some (.int .i64 t269) ∧ w'.cell? ⟨gb264, 1, none⟩ = some (.int .i64 t270) ∧ w'.cell? ⟨gb264, 2, none⟩ = some (.int .i64 t271) ∧ w'.cell? ⟨gb264, 3, none⟩ = some (.int .i64 t272) ∧ w'.cell? ⟨gb264, 4, none⟩ = some (.slice Ao30 t273.length co30) ∧ w'.cell? ⟨gb265, 0, none⟩ = some (.int .i64 t276) ∧ w'.cell? ⟨gb265, 1, none⟩ = some (.int .i64 t277) ∧ w'.cell? ⟨gb265, 2, none⟩ = some (.int .i64 t278) ∧ w'.cell? ⟨gb265, 3, none⟩ = some (.int .i64 t279) ∧ w'.cell? ⟨gb265, 4, none⟩ = some (.slice Ao36 t280.length co36)) (ds := []) #[false, false, false, false, false, false] (by kernel_rfl) rfl rfl ⟨(blk_cell BK264.out 0).trans rfl, (blk_cell BK264.out 1).trans rfl, (blk_cell BK264.out 2).trans rfl, (blk_cell BK264.out 3).trans rfl, (blk_cell BK264.out 4).trans rfl, (blk_cell BK265.out 0).trans rfl, (blk_cell BK265.out 1).trans rfl, (blk_cell BK265.out 2).trans rfl, (blk_cell BK265.out 3).trans rfl, (blk_cell BK265.out 4).trans rfl⟩ (fun hHeld => ?_)
  generalize w48.drew = w49 at HO275 HO282 HO288 HO294 BK264 BK265 BK266 BK267 HB hHeld ⊢
  refine take_ (i := 0) (N := some 29) (v := ?_) (a' := ?_) #[true, false, false, false, false, false] rfl rfl (by kernel_rfl) (fun _ _ _ h => h) (Or.inl ⟨by rfl, ?_⟩) hHeld ?_ ?_
  rotate_left
  ·rintro w' ⟨s0, s1, s2, s3, s4, s5, s6, s7, s8, s9⟩
   go_simp
   with_reducible rfl
  rotate_left
  ·simp only [Act.put, List.setIfInBounds_toArray, List.set_cons_zero, List.set_cons_succ, i64_w, i32_w]
   rfl
  refine take_ (i := 2) (N := some 31) (v := ?_) (a' := ?_) #[true, false, true, false, false, false] rfl rfl (by kernel_rfl) (fun _ _ _ h => h) (Or.inl ⟨by rfl, ?_⟩) hHeld ?_ ?_
  rotate_left
  ·rintro w' ⟨s0, s1, s2, s3, s4, s5, s6, s7, s8, s9⟩
   go_simp
   with_reducible rfl
  rotate_left
  ·simp only [Act.put, List.setIfInBounds_toArray, List.set_cons_zero, List.set_cons_succ, i64_w, i32_w]
   rfl
  refine one_ (i := 1) (N := some 30) #[true, true, true, false, false, false] rfl rfl (by kernel_rfl) (by decide) (fun K hK => ?_)
  refine goes_ Tryz.func28 (by kernel_rfl) rfl #[.agg #[.int .i64 t269, .int .i64 t270, .int .i64 t271, .int .i64 t272, .slice Ao30 t273.length co30]] (by rfl) rfl rfl (by (try simp only [List.map_toArray, List.map_cons, List.map_nil]); (rfl)) ?_
  with_reducible refine (note_PutConfig.calls k t269 t270 t271 t272 _ _ t273 t295 _ ?side1 ?side2 (HL.out.below HB.out) A11.out).mono ?_
  (case side1 => repeat ((exact (Kd.R_reads' HO275.out).2.2)))
  (case side2 => exact (Kd.R_reads' HO275.out).2.1)
  rintro e w50 ⟨rfl, hb⟩
  refine ⟨_, rfl, ?_⟩
  replace HO275 := Aside0.mk (Kd.R_below HO275.out hb)
  replace HO282 := Aside0.mk (Kd.R_below HO282.out hb)
  replace HO288 := Aside0.mk (Kd.R_below HO288.out hb)
  replace HO294 := Aside0.mk (Kd.R_below HO294.out hb)
  replace BK264 := Aside0.mk (blk_below BK264.out hb)
  replace BK265 := Aside0.mk (blk_below BK265.out hb)
  replace BK266 := Aside0.mk (blk_below BK266.out hb)
  replace BK267 := Aside0.mk (blk_below BK267.out hb)
  replace HB := Aside0.mk (below_step HB.out hb)
  (try clear hb)
  (try clear hb2)
  (try clear hk)
  (try clear hi)
  refine hK.out _ _ ⟨(blk_cell BK264.out 0).trans rfl, (blk_cell BK264.out 1).trans rfl, (blk_cell BK264.out 2).trans rfl, (blk_cell BK264.out 3).trans rfl, (blk_cell BK264.out 4).trans rfl, (blk_cell BK265.out 0).trans rfl, (blk_cell BK265.out 1).trans rfl, (blk_cell BK265.out 2).trans rfl, (blk_cell BK265.out 3).trans rfl, (blk_cell BK265.out 4).trans rfl⟩ (fun hHeld => ?_)
  clear hK K
  refine norm_ (a' := ?_) ?_ ?_
  rotate_left
  ·show Act.put _ (some 30) _ = _
   simp only [Act.put, List.setIfInBounds_toArray, List.set_cons_zero, List.set_cons_succ, i64_w, i32_w]
   rfl
  refine one_ (i := 3) (N := some 32) #[true, true, true, true, false, false] rfl rfl (by kernel_rfl) (by decide) (fun K hK => ?_)
  refine goes_ Tryz.func28 (by kernel_rfl) rfl #[.agg #[.int .i64 t276, .int .i64 t277, .int .i64 t278, .int .i64 t279, .slice Ao36 t280.length co36]] (by rfl) rfl rfl (by (try simp only [List.map_toArray, List.map_cons, List.map_nil]); (rfl)) ?_
  with_reducible refine (note_PutConfig.calls k t276 t277 t278 t279 _ _ t280 t296 _ ?side1 ?side2 (HL.out.below HB.out) A12.out).mono ?_
  (case side1 => repeat ((exact (Kd.R_reads' HO282.out).2.2)))
  (case side2 => exact (Kd.R_reads' HO282.out).2.1)
  rintro e w51 ⟨rfl, hb⟩
  refine ⟨_, rfl, ?_⟩
  replace HO275 := Aside0.mk (Kd.R_below HO275.out hb)
  replace HO282 := Aside0.mk (Kd.R_below HO282.out hb)
  replace HO288 := Aside0.mk (Kd.R_below HO288.out hb)
  replace HO294 := Aside0.mk (Kd.R_below HO294.out hb)
  replace BK264 := Aside0.mk (blk_below BK264.out hb)
  replace BK265 := Aside0.mk (blk_below BK265.out hb)
  replace BK266 := Aside0.mk (blk_below BK266.out hb)
  replace BK267 := Aside0.mk (blk_below BK267.out hb)
  replace HB := Aside0.mk (below_step HB.out hb)
  (try clear hb)
  (try clear hb2)
  (try clear hk)
  (try clear hi)
  refine hK.out _ _ ⟨(blk_cell BK264.out 0).trans rfl, (blk_cell BK264.out 1).trans rfl, (blk_cell BK264.out 2).trans rfl, (blk_cell BK264.out 3).trans rfl, (blk_cell BK264.out 4).trans rfl, (blk_cell BK265.out 0).trans rfl, (blk_cell BK265.out 1).trans rfl, (blk_cell BK265.out 2).trans rfl, (blk_cell BK265.out 3).trans rfl, (blk_cell BK265.out 4).trans rfl⟩ (fun hHeld => ?_)
  clear hK K
  refine norm_ (a' := ?_) ?_ ?_
  rotate_left
  ·show Act.put _ (some 32) _ = _
   simp only [Act.put, List.setIfInBounds_toArray, List.set_cons_zero, List.set_cons_succ, i64_w, i32_w]
   rfl
  refine pure_ (i := 4) (N := some 10) (v := ?_) (a' := ?_) #[true, true, true, true, true, false] rfl rfl (by kernel_rfl) (fun _ _ _ h => h) (Or.inl ⟨by rfl, ?_⟩) ?_ ?_
  rotate_left
  ·intro w'
   go_simp
   with_reducible rfl
  rotate_left
  ·simp only [Act.put, List.setIfInBounds_toArray, List.set_cons_zero, List.set_cons_succ, i64_w, i32_w]
   rfl
  refine pure_ (i := 5) (N := some 11) (v := ?_) (a' := ?_) #[true, true, true, true, true, true] rfl rfl (by kernel_rfl) (fun _ _ _ h => h) (Or.inl ⟨by rfl, ?_⟩) ?_ ?_
  rotate_left
  ·intro w'
   go_simp
   with_reducible rfl
  rotate_left
  ·simp only [Act.put, List.setIfInBounds_toArray, List.set_cons_zero, List.set_cons_succ, i64_w, i32_w]
   rfl
  refine done_ (by kernel_rfl) ?_
  try go_wp2
  replace HO275 := Aside0.mk (Kd.R_drew HO275.out)
  replace HO282 := Aside0.mk (Kd.R_drew HO282.out)
  replace HO288 := Aside0.mk (Kd.R_drew HO288.out)
  replace HO294 := Aside0.mk (Kd.R_drew HO294.out)
  replace BK264 := Aside0.mk (blk_drew BK264.out)
  replace BK265 := Aside0.mk (blk_drew BK265.out)
  replace BK266 := Aside0.mk (blk_drew BK266.out)
  replace BK267 := Aside0.mk (blk_drew BK267.out)
  replace HB := Aside0.mk (below_drew1 HB.out)
  refine start_ (n := 6) (S := fun w' => w'.cell? ⟨gb266, 0, none⟩ = some (.int .i64 t283) ∧ w'.cell? ⟨gb266, 1, none⟩ = some (.int .i64 t284) ∧ w'.cell? ⟨gb266, 2, none⟩ = some (.int .i64 t285) ∧ w'.cell? ⟨gb266, 3, none⟩ = some (.slice Ao41 t286.length co41) ∧ w'.cell? ⟨gb267, 0, none⟩ = some (.int .i64 t289) ∧ w'.cell? ⟨gb267, 1, none⟩ = some (.int .i64 t290) ∧ w'.cell? ⟨gb267, 2, none⟩ = some (.int .i64 t291) ∧ w'.cell? ⟨gb267, 3, none⟩ = some (.slice Ao46 t292.length co46)) (ds := []) #[false, false, false, false, false, false] (by kernel_rfl) rfl rfl ⟨(blk_cell BK266.out 0).trans rfl, (blk_cell BK266.out 1).trans rfl, (blk_cell BK266.out 2).trans rfl, (blk_cell BK266.out 3).trans rfl, (blk_cell BK267.out 0).trans rfl, (blk_cell BK267.out 1).trans rfl, (blk_cell BK267.out 2).trans rfl, (blk_cell BK267.out 3).trans rfl⟩ (fun hHeld => ?_)
  generalize w51.drew = w52 at HO275 HO282 HO288 HO294 BK264 BK265 BK266 BK267 HB hHeld ⊢
  refine take_ (i := 0) (N := some 33) (v := ?_) (a' := ?_) #[true, false, false, false, false, false] rfl rfl (by kernel_rfl) (fun _ _ _ h => h) (Or.inl ⟨by rfl, ?_⟩) hHeld ?_ ?_
  rotate_left
  ·rintro w' ⟨s0, s1, s2, s3, s4, s5, s6, s7⟩
   go_simp
   with_reducible rfl
  rotate_left
  ·simp only [Act.put, List.setIfInBounds_toArray, List.set_cons_zero, List.set_cons_succ, i64_w, i32_w]
   rfl
  refine take_ (i := 2) (N := some 35) (v := ?_) (a' := ?_) #[true, false, true, false, false, false] rfl rfl (by kernel_rfl) (fun _ _ _ h => h) (Or.inl ⟨by rfl, ?_⟩) hHeld ?_ ?_
  rotate_left
  ·rintro w' ⟨s0, s1, s2, s3, s4, s5, s6, s7⟩
   go_simp
   with_reducible rfl
  rotate_left
  ·simp only [Act.put, List.setIfInBounds_toArray, List.set_cons_zero, List.set_cons_succ, i64_w, i32_w]
   rfl
  refine one_ (i := 1) (N := some 34) #[true, true, true, false, false, false] rfl rfl (by kernel_rfl) (by decide) (fun K hK => ?_)
  refine goes_ Tryz.func29 (by kernel_rfl) rfl #[.agg #[.int .i64 t283, .int .i64 t284, .int .i64 t285, .slice Ao41 t286.length co41]] (by rfl) rfl rfl (by (try simp only [List.map_toArray, List.map_cons, List.map_nil]); (rfl)) ?_
  with_reducible refine (note_PutTask.calls k t283 t284 t285 _ _ t286 t297 _ ?side1 ?side2 (HL.out.below HB.out) A13.out).mono ?_
  (case side1 => repeat ((exact (Kd.R_reads' HO288.out).2.2)))
  (case side2 => exact (Kd.R_reads' HO288.out).2.1)
  rintro e w53 ⟨rfl, hb⟩
  refine ⟨_, rfl, ?_⟩
  replace HO275 := Aside0.mk (Kd.R_below HO275.out hb)
  replace HO282 := Aside0.mk (Kd.R_below HO282.out hb)
  replace HO288 := Aside0.mk (Kd.R_below HO288.out hb)
  replace HO294 := Aside0.mk (Kd.R_below HO294.out hb)
  replace BK264 := Aside0.mk (blk_below BK264.out hb)
  replace BK265 := Aside0.mk (blk_below BK265.out hb)
  replace BK266 := Aside0.mk (blk_below BK266.out hb)
  replace BK267 := Aside0.mk (blk_below BK267.out hb)
  replace HB := Aside0.mk (below_step HB.out hb)
  (try clear hb)
  (try clear hb2)
  (try clear hk)
  (try clear hi)
  refine hK.out _ _ ⟨(blk_cell BK266.out 0).trans rfl, (blk_cell BK266.out 1).trans rfl, (blk_cell BK266.out 2).trans rfl, (blk_cell BK266.out 3).trans rfl, (blk_cell BK267.out 0).trans rfl, (blk_cell BK267.out 1).trans rfl, (blk_cell BK267.out 2).trans rfl, (blk_cell BK267.out 3).trans rfl⟩ (fun hHeld => ?_)
  clear hK K
  refine norm_ (a' := ?_) ?_ ?_
  rotate_left
  ·show Act.put _ (some 34) _ = _
   simp only [Act.put, List.setIfInBounds_toArray, List.set_cons_zero, List.set_cons_succ, i64_w, i32_w]
   rfl
  refine one_ (i := 3) (N := some 36) #[true, true, true, true, false, false] rfl rfl (by kernel_rfl) (by decide) (fun K hK => ?_)
  refine goes_ Tryz.func29 (by kernel_rfl) rfl #[.agg #[.int .i64 t289, .int .i64 t290, .int .i64 t291, .slice Ao46 t292.length co46]] (by rfl) rfl rfl (by (try simp only [List.map_toArray, List.map_cons, List.map_nil]); (rfl)) ?_
  with_reducible refine (note_PutTask.calls k t289 t290 t291 _ _ t292 t298 _ ?side1 ?side2 (HL.out.below HB.out) A14.out).mono ?_
  (case side1 => repeat ((exact (Kd.R_reads' HO294.out).2.2)))
  (case side2 => exact (Kd.R_reads' HO294.out).2.1)
  rintro e w54 ⟨rfl, hb⟩
  refine ⟨_, rfl, ?_⟩
  replace HO275 := Aside0.mk (Kd.R_below HO275.out hb)
  replace HO282 := Aside0.mk (Kd.R_below HO282.out hb)
  replace HO288 := Aside0.mk (Kd.R_below HO288.out hb)
  replace HO294 := Aside0.mk (Kd.R_below HO294.out hb)
  replace BK264 := Aside0.mk (blk_below BK264.out hb)
  replace BK265 := Aside0.mk (blk_below BK265.out hb)
  replace BK266 := Aside0.mk (blk_below BK266.out hb)
  replace BK267 := Aside0.mk (blk_below BK267.out hb)
  replace HB := Aside0.mk (below_step HB.out hb)
  (try clear hb)
  (try clear hb2)
  (try clear hk)
  (try clear hi)
  refine hK.out _ _ ⟨(blk_cell BK266.out 0).trans rfl, (blk_cell BK266.out 1).trans rfl, (blk_cell BK266.out 2).trans rfl, (blk_cell BK266.out 3).trans rfl, (blk_cell BK267.out 0).trans rfl, (blk_cell BK267.out 1).trans rfl, (blk_cell BK267.out 2).trans rfl, (blk_cell BK267.out 3).trans rfl⟩ (fun hHeld => ?_)
  clear hK K
  refine norm_ (a' := ?_) ?_ ?_
  rotate_left
  ·show Act.put _ (some 36) _ = _
   simp only [Act.put, List.setIfInBounds_toArray, List.set_cons_zero, List.set_cons_succ, i64_w, i32_w]
   rfl
  refine pure_ (i := 4) (N := some 12) (v := ?_) (a' := ?_) #[true, true, true, true, true, false] rfl rfl (by kernel_rfl) (fun _ _ _ h => h) (Or.inl ⟨by rfl, ?_⟩) ?_ ?_
  rotate_left
  ·intro w'
   go_simp
   with_reducible rfl
  rotate_left
  ·simp only [Act.put, List.setIfInBounds_toArray, List.set_cons_zero, List.set_cons_succ, i64_w, i32_w]
   rfl
  refine pure_ (i := 5) (N := some 13) (v := ?_) (a' := ?_) #[true, true, true, true, true, true] rfl rfl (by kernel_rfl) (fun _ _ _ h => h) (Or.inl ⟨by rfl, ?_⟩) ?_ ?_
  rotate_left
  ·intro w'
   go_simp
   with_reducible rfl
  rotate_left
  ·simp only [Act.put, List.setIfInBounds_toArray, List.set_cons_zero, List.set_cons_succ, i64_w, i32_w]
   rfl
  refine done_ (by kernel_rfl) ?_
  go_upto_region 7 with (fail)
  go_cut [80] (fun v80 wc => ∃ (kq : Nat) (x80_14 : Bool), v80 = .bool x80_14 ∧ Aside0 (hortatorlaw7_NoteAll.j0 kq t295 t297 x80_14 t269 t270 t271 t272 t273 t283 t284 t285 t286 = some r) ∧ Aside0 (kq ≤ k) ∧ Aside0 (Kd.R (Kd.int .i64) 3 wc w.heap.size (fun k_ => some k_ ≠ ((.slice Ao36 t280.length co36) : Value).ownBlock) (.slice Ao30 t273.length co30) t273) ∧ Aside0 (Kd.R (Kd.int .i64) 3 wc w.heap.size (fun k_ => some k_ ≠ ((.slice Ao30 t273.length co30) : Value).ownBlock) (.slice Ao36 t280.length co36) t280) ∧ Aside0 (Kd.R k43 43 wc w.heap.size (fun k_ => some k_ ≠ ((.slice Ao46 t292.length co46) : Value).ownBlock) (.slice Ao41 t286.length co41) t286) ∧ Aside0 (Kd.R k43 43 wc w.heap.size (fun k_ => some k_ ≠ ((.slice Ao41 t286.length co41) : Value).ownBlock) (.slice Ao46 t292.length co46) t292) ∧ Aside0 (wc.heap[gb264]? = some (.cells #[.int .i64 t269, .int .i64 t270, .int .i64 t271, .int .i64 t272, (.slice Ao30 t273.length co30)] 24 (0, 0))) ∧ Aside0 (wc.heap[gb265]? = some (.cells #[.int .i64 t276, .int .i64 t277, .int .i64 t278, .int .i64 t279, (.slice Ao36 t280.length co36)] 24 (0, 0))) ∧ Aside0 (wc.heap[gb266]? = some (.cells #[.int .i64 t283, .int .i64 t284, .int .i64 t285, (.slice Ao41 t286.length co41)] 27 (0, 0))) ∧ Aside0 (wc.heap[gb267]? = some (.cells #[.int .i64 t289, .int .i64 t290, .int .i64 t291, (.slice Ao46 t292.length co46)] 27 (0, 0))) ∧ Aside0 (Below w.heap.size w wc))
  case first =>
   have H := HC15.out
   clear HC15
   replace H := Option.bind_eq_some_iff.mp H
   obtain ⟨t299, A550, H⟩ := H
   have A55 := Aside0.mk A550
   clear A550
   by_cases c56 : t295.toList = t299.toList
   ·rw [if_pos c56] at H
    have c56b0 : (t295.toList == t299.toList) = true := beq_iff_eq.mpr c56
    have c56b1 : (t295.toList != t299.toList) = false := bne_eq_false_iff_eq.mpr c56
    clear c56
    ((skip))
    replace H := Option.bind_eq_some_iff.mp H
    obtain ⟨t300, A570, H⟩ := H
    have A57 := Aside0.mk A570
    clear A570
    by_cases c58 : t297.toList = t300.toList
    ·rw [if_pos c58] at H
     have c58b0 : (t297.toList == t300.toList) = true := beq_iff_eq.mpr c58
     have c58b1 : (t297.toList != t300.toList) = false := bne_eq_false_iff_eq.mpr c58
     clear c58
     by_cases c59 : t295.toList = ([] : List UInt8)
     ·rw [if_pos c59] at H
      have c59b0 : (t295.toList == ([] : List UInt8)) = true := beq_iff_eq.mpr c59
      have c59b1 : (t295.toList != ([] : List UInt8)) = false := bne_eq_false_iff_eq.mpr c59
      clear c59
      by_cases c60 : t297.toList = ([] : List UInt8)
      ·rw [if_pos c60] at H
       have c60b0 : (t297.toList == ([] : List UInt8)) = true := beq_iff_eq.mpr c60
       have c60b1 : (t297.toList != ([] : List UInt8)) = false := bne_eq_false_iff_eq.mpr c60
       clear c60
       have H' := Aside0.mk H
       clear H
       have hnb61 := NB264_265.out
       have hnc61 := NB265_264.out
       have hnb62 := NB264_266.out
       have hnc62 := NB266_264.out
       have hnb63 := NB264_267.out
       have hnc63 := NB267_264.out
       have hcz64_0 : w54.cell? ⟨gb264, 0, none⟩ = some (.int .i64 t269) := (blk_cell BK264.out 0).trans rfl
       have hcz64_1 : w54.cell? ⟨gb264, 1, none⟩ = some (.int .i64 t270) := (blk_cell BK264.out 1).trans rfl
       have hcz64_2 : w54.cell? ⟨gb264, 2, none⟩ = some (.int .i64 t271) := (blk_cell BK264.out 2).trans rfl
       have hcz64_3 : w54.cell? ⟨gb264, 3, none⟩ = some (.int .i64 t272) := (blk_cell BK264.out 3).trans rfl
       have hcz64_4 : w54.cell? ⟨gb264, 4, none⟩ = some (.slice Ao30 t273.length co30) := (blk_cell BK264.out 4).trans rfl
       have hfz64_0 := blk_frozen BK264.out 0
       have hfz64_1 := blk_frozen BK264.out 1
       have hfz64_2 := blk_frozen BK264.out 2
       have hfz64_3 := blk_frozen BK264.out 3
       have hfz64_4 := blk_frozen BK264.out 4
       go_wp2_with (first | ((with_reducible refine gate_callee (f := 30) rfl ?_); refine goesL_ (some 39) rfl rfl Tryz.func30 (by kernel_rfl) rfl #[.agg #[.int .i64 t269, .int .i64 t270, .int .i64 t271, .int .i64 t272, .slice Ao30 t273.length co30]] rfl (by (try simp only [List.map_toArray, List.map_cons, List.map_nil]); (rfl)) ?_; (with_reducible refine (hortatorref7_PutConfig.calls k t269 t270 t271 t272 _ _ t273 t299 _ ?side1 ?side2 A55.out).mono ?_); (case side1 => repeat ((exact (Kd.R_reads' HO275.out).2.2))); (case side2 => exact (Kd.R_reads' HO275.out).2.1); rintro e w65 ⟨rfl, hb⟩; refine ⟨_, rfl, ?_⟩; replace HO275 := Aside0.mk (Kd.R_below HO275.out hb); replace HO282 := Aside0.mk (Kd.R_below HO282.out hb); replace HO288 := Aside0.mk (Kd.R_below HO288.out hb); replace HO294 := Aside0.mk (Kd.R_below HO294.out hb); replace BK264 := Aside0.mk (blk_below BK264.out hb); replace BK265 := Aside0.mk (blk_below BK265.out hb); replace BK266 := Aside0.mk (blk_below BK266.out hb); replace BK267 := Aside0.mk (blk_below BK267.out hb); replace HB := Aside0.mk (below_step HB.out hb); (try clear hb); (try clear hb2); (try clear hk); (try clear hi); have hnb66 := NB266_265.out; have hnc66 := NB265_266.out; have hnb67 := NB266_267.out; have hnc67 := NB267_266.out; have hcz68_0 : w65.cell? ⟨gb266, 0, none⟩ = some (.int .i64 t283) := (blk_cell BK266.out 0).trans rfl; have hcz68_1 : w65.cell? ⟨gb266, 1, none⟩ = some (.int .i64 t284) := (blk_cell BK266.out 1).trans rfl; have hcz68_2 : w65.cell? ⟨gb266, 2, none⟩ = some (.int .i64 t285) := (blk_cell BK266.out 2).trans rfl; have hcz68_3 : w65.cell? ⟨gb266, 3, none⟩ = some (.slice Ao41 t286.length co41) := (blk_cell BK266.out 3).trans rfl; have hfz68_0 := blk_frozen BK266.out 0; have hfz68_1 := blk_frozen BK266.out 1; have hfz68_2 := blk_frozen BK266.out 2; have hfz68_3 := blk_frozen BK266.out 3) | (go_at_call 31; (with_reducible refine (hortatorref7_PutTask.calls k t283 t284 t285 _ _ t286 t300 _ ?side1 ?side2 A57.out).mono ?_); (case side1 => repeat ((exact (Kd.R_reads' HO288.out).2.2))); (case side2 => exact (Kd.R_reads' HO288.out).2.1); rintro e w69 ⟨rfl, hb⟩; replace HO275 := Aside0.mk (Kd.R_below HO275.out hb); replace HO282 := Aside0.mk (Kd.R_below HO282.out hb); replace HO288 := Aside0.mk (Kd.R_below HO288.out hb); replace HO294 := Aside0.mk (Kd.R_below HO294.out hb); replace BK264 := Aside0.mk (blk_below BK264.out hb); replace BK265 := Aside0.mk (blk_below BK265.out hb); replace BK266 := Aside0.mk (blk_below BK266.out hb); replace BK267 := Aside0.mk (blk_below BK267.out hb); replace HB := Aside0.mk (below_step HB.out hb); (try clear hb); (try clear hb2); (try clear hk); (try clear hi)))
       go_meet
       case rel => exact ⟨_, (false), (by (rfl)), H', ⟨by (omega)⟩, ⟨HO275.out⟩, ⟨HO282.out⟩, ⟨HO288.out⟩, ⟨HO294.out⟩, ⟨BK264.out⟩, ⟨BK265.out⟩, ⟨BK266.out⟩, ⟨BK267.out⟩, ⟨HB.out⟩⟩
      ·rw [if_neg c60] at H
       have c60b0 : (t297.toList == ([] : List UInt8)) = false := beq_eq_false_iff_ne.mpr c60
       have c60b1 : (t297.toList != ([] : List UInt8)) = true := bne_iff_ne.mpr c60
       by_cases c70 : t298.toList = ([] : List UInt8)
       ·rw [if_pos c70] at H
        have c70b0 : (t298.toList == ([] : List UInt8)) = true := beq_iff_eq.mpr c70
        have c70b1 : (t298.toList != ([] : List UInt8)) = false := bne_eq_false_iff_eq.mpr c70
        clear c70
        have H' := Aside0.mk H
        clear H
        have hnb71 := NB264_265.out
        have hnc71 := NB265_264.out
        have hnb72 := NB264_266.out
        have hnc72 := NB266_264.out
        have hnb73 := NB264_267.out
        have hnc73 := NB267_264.out
        have hcz74_0 : w54.cell? ⟨gb264, 0, none⟩ = some (.int .i64 t269) := (blk_cell BK264.out 0).trans rfl
        have hcz74_1 : w54.cell? ⟨gb264, 1, none⟩ = some (.int .i64 t270) := (blk_cell BK264.out 1).trans rfl
        have hcz74_2 : w54.cell? ⟨gb264, 2, none⟩ = some (.int .i64 t271) := (blk_cell BK264.out 2).trans rfl
        have hcz74_3 : w54.cell? ⟨gb264, 3, none⟩ = some (.int .i64 t272) := (blk_cell BK264.out 3).trans rfl
        have hcz74_4 : w54.cell? ⟨gb264, 4, none⟩ = some (.slice Ao30 t273.length co30) := (blk_cell BK264.out 4).trans rfl
        have hfz74_0 := blk_frozen BK264.out 0
        have hfz74_1 := blk_frozen BK264.out 1
        have hfz74_2 := blk_frozen BK264.out 2
        have hfz74_3 := blk_frozen BK264.out 3
        have hfz74_4 := blk_frozen BK264.out 4
        go_wp2_with (first | ((with_reducible refine gate_callee (f := 30) rfl ?_); refine goesL_ (some 39) rfl rfl Tryz.func30 (by kernel_rfl) rfl #[.agg #[.int .i64 t269, .int .i64 t270, .int .i64 t271, .int .i64 t272, .slice Ao30 t273.length co30]] rfl (by (try simp only [List.map_toArray, List.map_cons, List.map_nil]); (rfl)) ?_; (with_reducible refine (hortatorref7_PutConfig.calls k t269 t270 t271 t272 _ _ t273 t299 _ ?side1 ?side2 A55.out).mono ?_); (case side1 => repeat ((exact (Kd.R_reads' HO275.out).2.2))); (case side2 => exact (Kd.R_reads' HO275.out).2.1); rintro e w75 ⟨rfl, hb⟩; refine ⟨_, rfl, ?_⟩; replace HO275 := Aside0.mk (Kd.R_below HO275.out hb); replace HO282 := Aside0.mk (Kd.R_below HO282.out hb); replace HO288 := Aside0.mk (Kd.R_below HO288.out hb); replace HO294 := Aside0.mk (Kd.R_below HO294.out hb); replace BK264 := Aside0.mk (blk_below BK264.out hb); replace BK265 := Aside0.mk (blk_below BK265.out hb); replace BK266 := Aside0.mk (blk_below BK266.out hb); replace BK267 := Aside0.mk (blk_below BK267.out hb); replace HB := Aside0.mk (below_step HB.out hb); (try clear hb); (try clear hb2); (try clear hk); (try clear hi); have hnb76 := NB266_265.out; have hnc76 := NB265_266.out; have hnb77 := NB266_267.out; have hnc77 := NB267_266.out; have hcz78_0 : w75.cell? ⟨gb266, 0, none⟩ = some (.int .i64 t283) := (blk_cell BK266.out 0).trans rfl; have hcz78_1 : w75.cell? ⟨gb266, 1, none⟩ = some (.int .i64 t284) := (blk_cell BK266.out 1).trans rfl; have hcz78_2 : w75.cell? ⟨gb266, 2, none⟩ = some (.int .i64 t285) := (blk_cell BK266.out 2).trans rfl; have hcz78_3 : w75.cell? ⟨gb266, 3, none⟩ = some (.slice Ao41 t286.length co41) := (blk_cell BK266.out 3).trans rfl; have hfz78_0 := blk_frozen BK266.out 0; have hfz78_1 := blk_frozen BK266.out 1; have hfz78_2 := blk_frozen BK266.out 2; have hfz78_3 := blk_frozen BK266.out 3) | (go_at_call 31; (with_reducible refine (hortatorref7_PutTask.calls k t283 t284 t285 _ _ t286 t300 _ ?side1 ?side2 A57.out).mono ?_); (case side1 => repeat ((exact (Kd.R_reads' HO288.out).2.2))); (case side2 => exact (Kd.R_reads' HO288.out).2.1); rintro e w79 ⟨rfl, hb⟩; replace HO275 := Aside0.mk (Kd.R_below HO275.out hb); replace HO282 := Aside0.mk (Kd.R_below HO282.out hb); replace HO288 := Aside0.mk (Kd.R_below HO288.out hb); replace HO294 := Aside0.mk (Kd.R_below HO294.out hb); replace BK264 := Aside0.mk (blk_below BK264.out hb); replace BK265 := Aside0.mk (blk_below BK265.out hb); replace BK266 := Aside0.mk (blk_below BK266.out hb); replace BK267 := Aside0.mk (blk_below BK267.out hb); replace HB := Aside0.mk (below_step HB.out hb); (try clear hb); (try clear hb2); (try clear hk); (try clear hi)))
        go_meet
        case rel => exact ⟨_, (false), (by (rfl)), H', ⟨by (omega)⟩, ⟨HO275.out⟩, ⟨HO282.out⟩, ⟨HO288.out⟩, ⟨HO294.out⟩, ⟨BK264.out⟩, ⟨BK265.out⟩, ⟨BK266.out⟩, ⟨BK267.out⟩, ⟨HB.out⟩⟩
       ·rw [if_neg c70] at H
        have c70b0 : (t298.toList == ([] : List UInt8)) = false := beq_eq_false_iff_ne.mpr c70
        have c70b1 : (t298.toList != ([] : List UInt8)) = true := bne_iff_ne.mpr c70
        replace H := Option.bind_eq_some_iff.mp H
        obtain ⟨t301, A800, H⟩ := H
        have A80 := Aside0.mk A800
        clear A800
        have H' := Aside0.mk H
        clear H
        have hnb81 := NB264_265.out
        have hnc81 := NB265_264.out
        have hnb82 := NB264_266.out
        have hnc82 := NB266_264.out
        have hnb83 := NB264_267.out
        have hnc83 := NB267_264.out
        have hcz84_0 : w54.cell? ⟨gb264, 0, none⟩ = some (.int .i64 t269) := (blk_cell BK264.out 0).trans rfl
        have hcz84_1 : w54.cell? ⟨gb264, 1, none⟩ = some (.int .i64 t270) := (blk_cell BK264.out 1).trans rfl
        have hcz84_2 : w54.cell? ⟨gb264, 2, none⟩ = some (.int .i64 t271) := (blk_cell BK264.out 2).trans rfl
        have hcz84_3 : w54.cell? ⟨gb264, 3, none⟩ = some (.int .i64 t272) := (blk_cell BK264.out 3).trans rfl
        have hcz84_4 : w54.cell? ⟨gb264, 4, none⟩ = some (.slice Ao30 t273.length co30) := (blk_cell BK264.out 4).trans rfl
        have hfz84_0 := blk_frozen BK264.out 0
        have hfz84_1 := blk_frozen BK264.out 1
        have hfz84_2 := blk_frozen BK264.out 2
        have hfz84_3 := blk_frozen BK264.out 3
        have hfz84_4 := blk_frozen BK264.out 4
        go_wp2_with (first | ((with_reducible refine gate_callee (f := 30) rfl ?_); refine goesL_ (some 39) rfl rfl Tryz.func30 (by kernel_rfl) rfl #[.agg #[.int .i64 t269, .int .i64 t270, .int .i64 t271, .int .i64 t272, .slice Ao30 t273.length co30]] rfl (by (try simp only [List.map_toArray, List.map_cons, List.map_nil]); (rfl)) ?_; (with_reducible refine (hortatorref7_PutConfig.calls k t269 t270 t271 t272 _ _ t273 t299 _ ?side1 ?side2 A55.out).mono ?_); (case side1 => repeat ((exact (Kd.R_reads' HO275.out).2.2))); (case side2 => exact (Kd.R_reads' HO275.out).2.1); rintro e w85 ⟨rfl, hb⟩; refine ⟨_, rfl, ?_⟩; replace HO275 := Aside0.mk (Kd.R_below HO275.out hb); replace HO282 := Aside0.mk (Kd.R_below HO282.out hb); replace HO288 := Aside0.mk (Kd.R_below HO288.out hb); replace HO294 := Aside0.mk (Kd.R_below HO294.out hb); replace BK264 := Aside0.mk (blk_below BK264.out hb); replace BK265 := Aside0.mk (blk_below BK265.out hb); replace BK266 := Aside0.mk (blk_below BK266.out hb); replace BK267 := Aside0.mk (blk_below BK267.out hb); replace HB := Aside0.mk (below_step HB.out hb); (try clear hb); (try clear hb2); (try clear hk); (try clear hi); have hnb86 := NB266_265.out; have hnc86 := NB265_266.out; have hnb87 := NB266_267.out; have hnc87 := NB267_266.out; have hcz88_0 : w85.cell? ⟨gb266, 0, none⟩ = some (.int .i64 t283) := (blk_cell BK266.out 0).trans rfl; have hcz88_1 : w85.cell? ⟨gb266, 1, none⟩ = some (.int .i64 t284) := (blk_cell BK266.out 1).trans rfl; have hcz88_2 : w85.cell? ⟨gb266, 2, none⟩ = some (.int .i64 t285) := (blk_cell BK266.out 2).trans rfl; have hcz88_3 : w85.cell? ⟨gb266, 3, none⟩ = some (.slice Ao41 t286.length co41) := (blk_cell BK266.out 3).trans rfl; have hfz88_0 := blk_frozen BK266.out 0; have hfz88_1 := blk_frozen BK266.out 1; have hfz88_2 := blk_frozen BK266.out 2; have hfz88_3 := blk_frozen BK266.out 3) | (go_at_call 31; (with_reducible refine (hortatorref7_PutTask.calls k t283 t284 t285 _ _ t286 t300 _ ?side1 ?side2 A57.out).mono ?_); (case side1 => repeat ((exact (Kd.R_reads' HO288.out).2.2))); (case side2 => exact (Kd.R_reads' HO288.out).2.1); rintro e w89 ⟨rfl, hb⟩; replace HO275 := Aside0.mk (Kd.R_below HO275.out hb); replace HO282 := Aside0.mk (Kd.R_below HO282.out hb); replace HO288 := Aside0.mk (Kd.R_below HO288.out hb); replace HO294 := Aside0.mk (Kd.R_below HO294.out hb); replace BK264 := Aside0.mk (blk_below BK264.out hb); replace BK265 := Aside0.mk (blk_below BK265.out hb); replace BK266 := Aside0.mk (blk_below BK266.out hb); replace BK267 := Aside0.mk (blk_below BK267.out hb); replace HB := Aside0.mk (below_step HB.out hb); (try clear hb); (try clear hb2); (try clear hk); (try clear hi); have hcz90_0 : w89.cell? ⟨gb266, 0, none⟩ = some (.int .i64 t283) := (blk_cell BK266.out 0).trans rfl; have hcz90_1 : w89.cell? ⟨gb266, 1, none⟩ = some (.int .i64 t284) := (blk_cell BK266.out 1).trans rfl; have hcz90_2 : w89.cell? ⟨gb266, 2, none⟩ = some (.int .i64 t285) := (blk_cell BK266.out 2).trans rfl; have hcz90_3 : w89.cell? ⟨gb266, 3, none⟩ = some (.slice Ao41 t286.length co41) := (blk_cell BK266.out 3).trans rfl; have hfz90_0 := blk_frozen BK266.out 0; have hfz90_1 := blk_frozen BK266.out 1; have hfz90_2 := blk_frozen BK266.out 2; have hfz90_3 := blk_frozen BK266.out 3; have hnb91 := NB267_265.out; have hnc91 := NB265_267.out; have hcz92_0 : w89.cell? ⟨gb267, 0, none⟩ = some (.int .i64 t289) := (blk_cell BK267.out 0).trans rfl; have hcz92_1 : w89.cell? ⟨gb267, 1, none⟩ = some (.int .i64 t290) := (blk_cell BK267.out 1).trans rfl; have hcz92_2 : w89.cell? ⟨gb267, 2, none⟩ = some (.int .i64 t291) := (blk_cell BK267.out 2).trans rfl; have hcz92_3 : w89.cell? ⟨gb267, 3, none⟩ = some (.slice Ao46 t292.length co46) := (blk_cell BK267.out 3).trans rfl; have hfz92_0 := blk_frozen BK267.out 0; have hfz92_1 := blk_frozen BK267.out 1; have hfz92_2 := blk_frozen BK267.out 2; have hfz92_3 := blk_frozen BK267.out 3) | (go_at_call 18; (with_reducible refine (rule_Same.calls k t283 t284 t285 _ _ t286 t289 t290 t291 _ _ t292 t301 _ ?side1 ?side2 ?side3 ?side4 A80.out).mono ?_); (case side1 => repeat ((exact (Kd.R_reads' HO288.out).2.2))); (case side2 => exact (Kd.R_reads' HO288.out).2.1); (case side3 => repeat ((exact (Kd.R_reads' HO294.out).2.2))); (case side4 => exact (Kd.R_reads' HO294.out).2.1); rintro e w93 ⟨rfl, hb⟩; replace HO275 := Aside0.mk (Kd.R_below HO275.out hb); replace HO282 := Aside0.mk (Kd.R_below HO282.out hb); replace HO288 := Aside0.mk (Kd.R_below HO288.out hb); replace HO294 := Aside0.mk (Kd.R_below HO294.out hb); replace BK264 := Aside0.mk (blk_below BK264.out hb); replace BK265 := Aside0.mk (blk_below BK265.out hb); replace BK266 := Aside0.mk (blk_below BK266.out hb); replace BK267 := Aside0.mk (blk_below BK267.out hb); replace HB := Aside0.mk (below_step HB.out hb); (try clear hb); (try clear hb2); (try clear hk); (try clear hi)))
        go_meet
        case rel => exact ⟨_, (((t297.toList == t298.toList) != t301)), (by (rfl)), H', ⟨by (omega)⟩, ⟨HO275.out⟩, ⟨HO282.out⟩, ⟨HO288.out⟩, ⟨HO294.out⟩, ⟨BK264.out⟩, ⟨BK265.out⟩, ⟨BK266.out⟩, ⟨BK267.out⟩, ⟨HB.out⟩⟩
     ·rw [if_neg c59] at H
      have c59b0 : (t295.toList == ([] : List UInt8)) = false := beq_eq_false_iff_ne.mpr c59
      have c59b1 : (t295.toList != ([] : List UInt8)) = true := bne_iff_ne.mpr c59
      by_cases c94 : t296.toList = ([] : List UInt8)
      ·rw [if_pos c94] at H
       have c94b0 : (t296.toList == ([] : List UInt8)) = true := beq_iff_eq.mpr c94
       have c94b1 : (t296.toList != ([] : List UInt8)) = false := bne_eq_false_iff_eq.mpr c94
       clear c94
       by_cases c95 : t297.toList = ([] : List UInt8)
       ·rw [if_pos c95] at H
        have c95b0 : (t297.toList == ([] : List UInt8)) = true := beq_iff_eq.mpr c95
        have c95b1 : (t297.toList != ([] : List UInt8)) = false := bne_eq_false_iff_eq.mpr c95
        clear c95
        have H' := Aside0.mk H
        clear H
        have hnb96 := NB264_265.out
        have hnc96 := NB265_264.out
        have hnb97 := NB264_266.out
        have hnc97 := NB266_264.out
        have hnb98 := NB264_267.out
        have hnc98 := NB267_264.out
        have hcz99_0 : w54.cell? ⟨gb264, 0, none⟩ = some (.int .i64 t269) := (blk_cell BK264.out 0).trans rfl
        have hcz99_1 : w54.cell? ⟨gb264, 1, none⟩ = some (.int .i64 t270) := (blk_cell BK264.out 1).trans rfl
        have hcz99_2 : w54.cell? ⟨gb264, 2, none⟩ = some (.int .i64 t271) := (blk_cell BK264.out 2).trans rfl
        have hcz99_3 : w54.cell? ⟨gb264, 3, none⟩ = some (.int .i64 t272) := (blk_cell BK264.out 3).trans rfl
        have hcz99_4 : w54.cell? ⟨gb264, 4, none⟩ = some (.slice Ao30 t273.length co30) := (blk_cell BK264.out 4).trans rfl
        have hfz99_0 := blk_frozen BK264.out 0
        have hfz99_1 := blk_frozen BK264.out 1
        have hfz99_2 := blk_frozen BK264.out 2
        have hfz99_3 := blk_frozen BK264.out 3
        have hfz99_4 := blk_frozen BK264.out 4
        go_wp2_with (first | ((with_reducible refine gate_callee (f := 30) rfl ?_); refine goesL_ (some 39) rfl rfl Tryz.func30 (by kernel_rfl) rfl #[.agg #[.int .i64 t269, .int .i64 t270, .int .i64 t271, .int .i64 t272, .slice Ao30 t273.length co30]] rfl (by (try simp only [List.map_toArray, List.map_cons, List.map_nil]); (rfl)) ?_; (with_reducible refine (hortatorref7_PutConfig.calls k t269 t270 t271 t272 _ _ t273 t299 _ ?side1 ?side2 A55.out).mono ?_); (case side1 => repeat ((exact (Kd.R_reads' HO275.out).2.2))); (case side2 => exact (Kd.R_reads' HO275.out).2.1); rintro e w100 ⟨rfl, hb⟩; refine ⟨_, rfl, ?_⟩; replace HO275 := Aside0.mk (Kd.R_below HO275.out hb); replace HO282 := Aside0.mk (Kd.R_below HO282.out hb); replace HO288 := Aside0.mk (Kd.R_below HO288.out hb); replace HO294 := Aside0.mk (Kd.R_below HO294.out hb); replace BK264 := Aside0.mk (blk_below BK264.out hb); replace BK265 := Aside0.mk (blk_below BK265.out hb); replace BK266 := Aside0.mk (blk_below BK266.out hb); replace BK267 := Aside0.mk (blk_below BK267.out hb); replace HB := Aside0.mk (below_step HB.out hb); (try clear hb); (try clear hb2); (try clear hk); (try clear hi); have hnb101 := NB266_265.out; have hnc101 := NB265_266.out; have hnb102 := NB266_267.out; have hnc102 := NB267_266.out; have hcz103_0 : w100.cell? ⟨gb266, 0, none⟩ = some (.int .i64 t283) := (blk_cell BK266.out 0).trans rfl; have hcz103_1 : w100.cell? ⟨gb266, 1, none⟩ = some (.int .i64 t284) := (blk_cell BK266.out 1).trans rfl; have hcz103_2 : w100.cell? ⟨gb266, 2, none⟩ = some (.int .i64 t285) := (blk_cell BK266.out 2).trans rfl; have hcz103_3 : w100.cell? ⟨gb266, 3, none⟩ = some (.slice Ao41 t286.length co41) := (blk_cell BK266.out 3).trans rfl; have hfz103_0 := blk_frozen BK266.out 0; have hfz103_1 := blk_frozen BK266.out 1; have hfz103_2 := blk_frozen BK266.out 2; have hfz103_3 := blk_frozen BK266.out 3) | (go_at_call 31; (with_reducible refine (hortatorref7_PutTask.calls k t283 t284 t285 _ _ t286 t300 _ ?side1 ?side2 A57.out).mono ?_); (case side1 => repeat ((exact (Kd.R_reads' HO288.out).2.2))); (case side2 => exact (Kd.R_reads' HO288.out).2.1); rintro e w104 ⟨rfl, hb⟩; replace HO275 := Aside0.mk (Kd.R_below HO275.out hb); replace HO282 := Aside0.mk (Kd.R_below HO282.out hb); replace HO288 := Aside0.mk (Kd.R_below HO288.out hb); replace HO294 := Aside0.mk (Kd.R_below HO294.out hb); replace BK264 := Aside0.mk (blk_below BK264.out hb); replace BK265 := Aside0.mk (blk_below BK265.out hb); replace BK266 := Aside0.mk (blk_below BK266.out hb); replace BK267 := Aside0.mk (blk_below BK267.out hb); replace HB := Aside0.mk (below_step HB.out hb); (try clear hb); (try clear hb2); (try clear hk); (try clear hi)))
        go_meet
        case rel => exact ⟨_, (false), (by (rfl)), H', ⟨by (omega)⟩, ⟨HO275.out⟩, ⟨HO282.out⟩, ⟨HO288.out⟩, ⟨HO294.out⟩, ⟨BK264.out⟩, ⟨BK265.out⟩, ⟨BK266.out⟩, ⟨BK267.out⟩, ⟨HB.out⟩⟩
       ·rw [if_neg c95] at H
        have c95b0 : (t297.toList == ([] : List UInt8)) = false := beq_eq_false_iff_ne.mpr c95
        have c95b1 : (t297.toList != ([] : List UInt8)) = true := bne_iff_ne.mpr c95
        by_cases c105 : t298.toList = ([] : List UInt8)
        ·rw [if_pos c105] at H
         have c105b0 : (t298.toList == ([] : List UInt8)) = true := beq_iff_eq.mpr c105
         have c105b1 : (t298.toList != ([] : List UInt8)) = false := bne_eq_false_iff_eq.mpr c105
         clear c105
         have H' := Aside0.mk H
         clear H
         have hnb106 := NB264_265.out
         have hnc106 := NB265_264.out
         have hnb107 := NB264_266.out
         have hnc107 := NB266_264.out
         have hnb108 := NB264_267.out
         have hnc108 := NB267_264.out
         have hcz109_0 : w54.cell? ⟨gb264, 0, none⟩ = some (.int .i64 t269) := (blk_cell BK264.out 0).trans rfl
         have hcz109_1 : w54.cell? ⟨gb264, 1, none⟩ = some (.int .i64 t270) := (blk_cell BK264.out 1).trans rfl
         have hcz109_2 : w54.cell? ⟨gb264, 2, none⟩ = some (.int .i64 t271) := (blk_cell BK264.out 2).trans rfl
         have hcz109_3 : w54.cell? ⟨gb264, 3, none⟩ = some (.int .i64 t272) := (blk_cell BK264.out 3).trans rfl
         have hcz109_4 : w54.cell? ⟨gb264, 4, none⟩ = some (.slice Ao30 t273.length co30) := (blk_cell BK264.out 4).trans rfl
         have hfz109_0 := blk_frozen BK264.out 0
         have hfz109_1 := blk_frozen BK264.out 1
         have hfz109_2 := blk_frozen BK264.out 2
         have hfz109_3 := blk_frozen BK264.out 3
         have hfz109_4 := blk_frozen BK264.out 4
         go_wp2_with (first | ((with_reducible refine gate_callee (f := 30) rfl ?_); refine goesL_ (some 39) rfl rfl Tryz.func30 (by kernel_rfl) rfl #[.agg #[.int .i64 t269, .int .i64 t270, .int .i64 t271, .int .i64 t272, .slice Ao30 t273.length co30]] rfl (by (try simp only [List.map_toArray, List.map_cons, List.map_nil]); (rfl)) ?_; (with_reducible refine (hortatorref7_PutConfig.calls k t269 t270 t271 t272 _ _ t273 t299 _ ?side1 ?side2 A55.out).mono ?_); (case side1 => repeat ((exact (Kd.R_reads' HO275.out).2.2))); (case side2 => exact (Kd.R_reads' HO275.out).2.1); rintro e w110 ⟨rfl, hb⟩; refine ⟨_, rfl, ?_⟩; replace HO275 := Aside0.mk (Kd.R_below HO275.out hb); replace HO282 := Aside0.mk (Kd.R_below HO282.out hb); replace HO288 := Aside0.mk (Kd.R_below HO288.out hb); replace HO294 := Aside0.mk (Kd.R_below HO294.out hb); replace BK264 := Aside0.mk (blk_below BK264.out hb); replace BK265 := Aside0.mk (blk_below BK265.out hb); replace BK266 := Aside0.mk (blk_below BK266.out hb); replace BK267 := Aside0.mk (blk_below BK267.out hb); replace HB := Aside0.mk (below_step HB.out hb); (try clear hb); (try clear hb2); (try clear hk); (try clear hi); have hnb111 := NB266_265.out; have hnc111 := NB265_266.out; have hnb112 := NB266_267.out; have hnc112 := NB267_266.out; have hcz113_0 : w110.cell? ⟨gb266, 0, none⟩ = some (.int .i64 t283) := (blk_cell BK266.out 0).trans rfl; have hcz113_1 : w110.cell? ⟨gb266, 1, none⟩ = some (.int .i64 t284) := (blk_cell BK266.out 1).trans rfl; have hcz113_2 : w110.cell? ⟨gb266, 2, none⟩ = some (.int .i64 t285) := (blk_cell BK266.out 2).trans rfl; have hcz113_3 : w110.cell? ⟨gb266, 3, none⟩ = some (.slice Ao41 t286.length co41) := (blk_cell BK266.out 3).trans rfl; have hfz113_0 := blk_frozen BK266.out 0; have hfz113_1 := blk_frozen BK266.out 1; have hfz113_2 := blk_frozen BK266.out 2; have hfz113_3 := blk_frozen BK266.out 3) | (go_at_call 31; (with_reducible refine (hortatorref7_PutTask.calls k t283 t284 t285 _ _ t286 t300 _ ?side1 ?side2 A57.out).mono ?_); (case side1 => repeat ((exact (Kd.R_reads' HO288.out).2.2))); (case side2 => exact (Kd.R_reads' HO288.out).2.1); rintro e w114 ⟨rfl, hb⟩; replace HO275 := Aside0.mk (Kd.R_below HO275.out hb); replace HO282 := Aside0.mk (Kd.R_below HO282.out hb); replace HO288 := Aside0.mk (Kd.R_below HO288.out hb); replace HO294 := Aside0.mk (Kd.R_below HO294.out hb); replace BK264 := Aside0.mk (blk_below BK264.out hb); replace BK265 := Aside0.mk (blk_below BK265.out hb); replace BK266 := Aside0.mk (blk_below BK266.out hb); replace BK267 := Aside0.mk (blk_below BK267.out hb); replace HB := Aside0.mk (below_step HB.out hb); (try clear hb); (try clear hb2); (try clear hk); (try clear hi)))
         go_meet
         case rel => exact ⟨_, (false), (by (rfl)), H', ⟨by (omega)⟩, ⟨HO275.out⟩, ⟨HO282.out⟩, ⟨HO288.out⟩, ⟨HO294.out⟩, ⟨BK264.out⟩, ⟨BK265.out⟩, ⟨BK266.out⟩, ⟨BK267.out⟩, ⟨HB.out⟩⟩
        ·rw [if_neg c105] at H
         have c105b0 : (t298.toList == ([] : List UInt8)) = false := beq_eq_false_iff_ne.mpr c105
         have c105b1 : (t298.toList != ([] : List UInt8)) = true := bne_iff_ne.mpr c105
         replace H := Option.bind_eq_some_iff.mp H
         obtain ⟨t302, A1150, H⟩ := H
         have A115 := Aside0.mk A1150
         clear A1150
         have H' := Aside0.mk H
         clear H
         have hnb116 := NB264_265.out
         have hnc116 := NB265_264.out
         have hnb117 := NB264_266.out
         have hnc117 := NB266_264.out
         have hnb118 := NB264_267.out
         have hnc118 := NB267_264.out
         have hcz119_0 : w54.cell? ⟨gb264, 0, none⟩ = some (.int .i64 t269) := (blk_cell BK264.out 0).trans rfl
         have hcz119_1 : w54.cell? ⟨gb264, 1, none⟩ = some (.int .i64 t270) := (blk_cell BK264.out 1).trans rfl
         have hcz119_2 : w54.cell? ⟨gb264, 2, none⟩ = some (.int .i64 t271) := (blk_cell BK264.out 2).trans rfl
         have hcz119_3 : w54.cell? ⟨gb264, 3, none⟩ = some (.int .i64 t272) := (blk_cell BK264.out 3).trans rfl
         have hcz119_4 : w54.cell? ⟨gb264, 4, none⟩ = some (.slice Ao30 t273.length co30) := (blk_cell BK264.out 4).trans rfl
         have hfz119_0 := blk_frozen BK264.out 0
         have hfz119_1 := blk_frozen BK264.out 1
         have hfz119_2 := blk_frozen BK264.out 2
         have hfz119_3 := blk_frozen BK264.out 3
         have hfz119_4 := blk_frozen BK264.out 4
         go_wp2_with (first | ((with_reducible refine gate_callee (f := 30) rfl ?_); refine goesL_ (some 39) rfl rfl Tryz.func30 (by kernel_rfl) rfl #[.agg #[.int .i64 t269, .int .i64 t270, .int .i64 t271, .int .i64 t272, .slice Ao30 t273.length co30]] rfl (by (try simp only [List.map_toArray, List.map_cons, List.map_nil]); (rfl)) ?_; (with_reducible refine (hortatorref7_PutConfig.calls k t269 t270 t271 t272 _ _ t273 t299 _ ?side1 ?side2 A55.out).mono ?_); (case side1 => repeat ((exact (Kd.R_reads' HO275.out).2.2))); (case side2 => exact (Kd.R_reads' HO275.out).2.1); rintro e w120 ⟨rfl, hb⟩; refine ⟨_, rfl, ?_⟩; replace HO275 := Aside0.mk (Kd.R_below HO275.out hb); replace HO282 := Aside0.mk (Kd.R_below HO282.out hb); replace HO288 := Aside0.mk (Kd.R_below HO288.out hb); replace HO294 := Aside0.mk (Kd.R_below HO294.out hb); replace BK264 := Aside0.mk (blk_below BK264.out hb); replace BK265 := Aside0.mk (blk_below BK265.out hb); replace BK266 := Aside0.mk (blk_below BK266.out hb); replace BK267 := Aside0.mk (blk_below BK267.out hb); replace HB := Aside0.mk (below_step HB.out hb); (try clear hb); (try clear hb2); (try clear hk); (try clear hi); have hnb121 := NB266_265.out; have hnc121 := NB265_266.out; have hnb122 := NB266_267.out; have hnc122 := NB267_266.out; have hcz123_0 : w120.cell? ⟨gb266, 0, none⟩ = some (.int .i64 t283) := (blk_cell BK266.out 0).trans rfl; have hcz123_1 : w120.cell? ⟨gb266, 1, none⟩ = some (.int .i64 t284) := (blk_cell BK266.out 1).trans rfl; have hcz123_2 : w120.cell? ⟨gb266, 2, none⟩ = some (.int .i64 t285) := (blk_cell BK266.out 2).trans rfl; have hcz123_3 : w120.cell? ⟨gb266, 3, none⟩ = some (.slice Ao41 t286.length co41) := (blk_cell BK266.out 3).trans rfl; have hfz123_0 := blk_frozen BK266.out 0; have hfz123_1 := blk_frozen BK266.out 1; have hfz123_2 := blk_frozen BK266.out 2; have hfz123_3 := blk_frozen BK266.out 3) | (go_at_call 31; (with_reducible refine (hortatorref7_PutTask.calls k t283 t284 t285 _ _ t286 t300 _ ?side1 ?side2 A57.out).mono ?_); (case side1 => repeat ((exact (Kd.R_reads' HO288.out).2.2))); (case side2 => exact (Kd.R_reads' HO288.out).2.1); rintro e w124 ⟨rfl, hb⟩; replace HO275 := Aside0.mk (Kd.R_below HO275.out hb); replace HO282 := Aside0.mk (Kd.R_below HO282.out hb); replace HO288 := Aside0.mk (Kd.R_below HO288.out hb); replace HO294 := Aside0.mk (Kd.R_below HO294.out hb); replace BK264 := Aside0.mk (blk_below BK264.out hb); replace BK265 := Aside0.mk (blk_below BK265.out hb); replace BK266 := Aside0.mk (blk_below BK266.out hb); replace BK267 := Aside0.mk (blk_below BK267.out hb); replace HB := Aside0.mk (below_step HB.out hb); (try clear hb); (try clear hb2); (try clear hk); (try clear hi); have hcz125_0 : w124.cell? ⟨gb266, 0, none⟩ = some (.int .i64 t283) := (blk_cell BK266.out 0).trans rfl; have hcz125_1 : w124.cell? ⟨gb266, 1, none⟩ = some (.int .i64 t284) := (blk_cell BK266.out 1).trans rfl; have hcz125_2 : w124.cell? ⟨gb266, 2, none⟩ = some (.int .i64 t285) := (blk_cell BK266.out 2).trans rfl; have hcz125_3 : w124.cell? ⟨gb266, 3, none⟩ = some (.slice Ao41 t286.length co41) := (blk_cell BK266.out 3).trans rfl; have hfz125_0 := blk_frozen BK266.out 0; have hfz125_1 := blk_frozen BK266.out 1; have hfz125_2 := blk_frozen BK266.out 2; have hfz125_3 := blk_frozen BK266.out 3; have hnb126 := NB267_265.out; have hnc126 := NB265_267.out; have hcz127_0 : w124.cell? ⟨gb267, 0, none⟩ = some (.int .i64 t289) := (blk_cell BK267.out 0).trans rfl; have hcz127_1 : w124.cell? ⟨gb267, 1, none⟩ = some (.int .i64 t290) := (blk_cell BK267.out 1).trans rfl; have hcz127_2 : w124.cell? ⟨gb267, 2, none⟩ = some (.int .i64 t291) := (blk_cell BK267.out 2).trans rfl; have hcz127_3 : w124.cell? ⟨gb267, 3, none⟩ = some (.slice Ao46 t292.length co46) := (blk_cell BK267.out 3).trans rfl; have hfz127_0 := blk_frozen BK267.out 0; have hfz127_1 := blk_frozen BK267.out 1; have hfz127_2 := blk_frozen BK267.out 2; have hfz127_3 := blk_frozen BK267.out 3) | (go_at_call 18; (with_reducible refine (rule_Same.calls k t283 t284 t285 _ _ t286 t289 t290 t291 _ _ t292 t302 _ ?side1 ?side2 ?side3 ?side4 A115.out).mono ?_); (case side1 => repeat ((exact (Kd.R_reads' HO288.out).2.2))); (case side2 => exact (Kd.R_reads' HO288.out).2.1); (case side3 => repeat ((exact (Kd.R_reads' HO294.out).2.2))); (case side4 => exact (Kd.R_reads' HO294.out).2.1); rintro e w128 ⟨rfl, hb⟩; replace HO275 := Aside0.mk (Kd.R_below HO275.out hb); replace HO282 := Aside0.mk (Kd.R_below HO282.out hb); replace HO288 := Aside0.mk (Kd.R_below HO288.out hb); replace HO294 := Aside0.mk (Kd.R_below HO294.out hb); replace BK264 := Aside0.mk (blk_below BK264.out hb); replace BK265 := Aside0.mk (blk_below BK265.out hb); replace BK266 := Aside0.mk (blk_below BK266.out hb); replace BK267 := Aside0.mk (blk_below BK267.out hb); replace HB := Aside0.mk (below_step HB.out hb); (try clear hb); (try clear hb2); (try clear hk); (try clear hi)))
         go_meet
         case rel => exact ⟨_, (((t297.toList == t298.toList) != t302)), (by (rfl)), H', ⟨by (omega)⟩, ⟨HO275.out⟩, ⟨HO282.out⟩, ⟨HO288.out⟩, ⟨HO294.out⟩, ⟨BK264.out⟩, ⟨BK265.out⟩, ⟨BK266.out⟩, ⟨BK267.out⟩, ⟨HB.out⟩⟩
      ·rw [if_neg c94] at H
       have c94b0 : (t296.toList == ([] : List UInt8)) = false := beq_eq_false_iff_ne.mpr c94
       have c94b1 : (t296.toList != ([] : List UInt8)) = true := bne_iff_ne.mpr c94
       replace H := Option.bind_eq_some_iff.mp H
       obtain ⟨t303, A1290, H⟩ := H
       have A129 := Aside0.mk A1290
       clear A1290
       by_cases c130 : ((t295.toList == t296.toList) != t303) = true
       ·rw [if_pos c130] at H
        have c130b0 : ((t295.toList == t296.toList) != t303) = true := c130
        (try (have c130b1 : decide ((t295.toList == t296.toList) = t303) = false := by simpa using c130))
        (try (have c130b2 : ((t295.toList == t296.toList) == t303) = false := by simpa using c130))
        (try (have c130b3 : ¬ ((t295.toList == t296.toList) = t303) := by simpa using c130))
        clear c130
        have H' := Aside0.mk H
        clear H
        have hnb131 := NB264_265.out
        have hnc131 := NB265_264.out
        have hnb132 := NB264_266.out
        have hnc132 := NB266_264.out
        have hnb133 := NB264_267.out
        have hnc133 := NB267_264.out
        have hcz134_0 : w54.cell? ⟨gb264, 0, none⟩ = some (.int .i64 t269) := (blk_cell BK264.out 0).trans rfl
        have hcz134_1 : w54.cell? ⟨gb264, 1, none⟩ = some (.int .i64 t270) := (blk_cell BK264.out 1).trans rfl
        have hcz134_2 : w54.cell? ⟨gb264, 2, none⟩ = some (.int .i64 t271) := (blk_cell BK264.out 2).trans rfl
        have hcz134_3 : w54.cell? ⟨gb264, 3, none⟩ = some (.int .i64 t272) := (blk_cell BK264.out 3).trans rfl
        have hcz134_4 : w54.cell? ⟨gb264, 4, none⟩ = some (.slice Ao30 t273.length co30) := (blk_cell BK264.out 4).trans rfl
        have hfz134_0 := blk_frozen BK264.out 0
        have hfz134_1 := blk_frozen BK264.out 1
        have hfz134_2 := blk_frozen BK264.out 2
        have hfz134_3 := blk_frozen BK264.out 3
        have hfz134_4 := blk_frozen BK264.out 4
        go_wp2_with (first | ((with_reducible refine gate_callee (f := 30) rfl ?_); refine goesL_ (some 39) rfl rfl Tryz.func30 (by kernel_rfl) rfl #[.agg #[.int .i64 t269, .int .i64 t270, .int .i64 t271, .int .i64 t272, .slice Ao30 t273.length co30]] rfl (by (try simp only [List.map_toArray, List.map_cons, List.map_nil]); (rfl)) ?_; (with_reducible refine (hortatorref7_PutConfig.calls k t269 t270 t271 t272 _ _ t273 t299 _ ?side1 ?side2 A55.out).mono ?_); (case side1 => repeat ((exact (Kd.R_reads' HO275.out).2.2))); (case side2 => exact (Kd.R_reads' HO275.out).2.1); rintro e w135 ⟨rfl, hb⟩; refine ⟨_, rfl, ?_⟩; replace HO275 := Aside0.mk (Kd.R_below HO275.out hb); replace HO282 := Aside0.mk (Kd.R_below HO282.out hb); replace HO288 := Aside0.mk (Kd.R_below HO288.out hb); replace HO294 := Aside0.mk (Kd.R_below HO294.out hb); replace BK264 := Aside0.mk (blk_below BK264.out hb); replace BK265 := Aside0.mk (blk_below BK265.out hb); replace BK266 := Aside0.mk (blk_below BK266.out hb); replace BK267 := Aside0.mk (blk_below BK267.out hb); replace HB := Aside0.mk (below_step HB.out hb); (try clear hb); (try clear hb2); (try clear hk); (try clear hi); have hnb136 := NB266_265.out; have hnc136 := NB265_266.out; have hnb137 := NB266_267.out; have hnc137 := NB267_266.out; have hcz138_0 : w135.cell? ⟨gb266, 0, none⟩ = some (.int .i64 t283) := (blk_cell BK266.out 0).trans rfl; have hcz138_1 : w135.cell? ⟨gb266, 1, none⟩ = some (.int .i64 t284) := (blk_cell BK266.out 1).trans rfl; have hcz138_2 : w135.cell? ⟨gb266, 2, none⟩ = some (.int .i64 t285) := (blk_cell BK266.out 2).trans rfl; have hcz138_3 : w135.cell? ⟨gb266, 3, none⟩ = some (.slice Ao41 t286.length co41) := (blk_cell BK266.out 3).trans rfl; have hfz138_0 := blk_frozen BK266.out 0; have hfz138_1 := blk_frozen BK266.out 1; have hfz138_2 := blk_frozen BK266.out 2; have hfz138_3 := blk_frozen BK266.out 3) | (go_at_call 31; (with_reducible refine (hortatorref7_PutTask.calls k t283 t284 t285 _ _ t286 t300 _ ?side1 ?side2 A57.out).mono ?_); (case side1 => repeat ((exact (Kd.R_reads' HO288.out).2.2))); (case side2 => exact (Kd.R_reads' HO288.out).2.1); rintro e w139 ⟨rfl, hb⟩; replace HO275 := Aside0.mk (Kd.R_below HO275.out hb); replace HO282 := Aside0.mk (Kd.R_below HO282.out hb); replace HO288 := Aside0.mk (Kd.R_below HO288.out hb); replace HO294 := Aside0.mk (Kd.R_below HO294.out hb); replace BK264 := Aside0.mk (blk_below BK264.out hb); replace BK265 := Aside0.mk (blk_below BK265.out hb); replace BK266 := Aside0.mk (blk_below BK266.out hb); replace BK267 := Aside0.mk (blk_below BK267.out hb); replace HB := Aside0.mk (below_step HB.out hb); (try clear hb); (try clear hb2); (try clear hk); (try clear hi); have hcz140_0 : w139.cell? ⟨gb264, 0, none⟩ = some (.int .i64 t269) := (blk_cell BK264.out 0).trans rfl; have hcz140_1 : w139.cell? ⟨gb264, 1, none⟩ = some (.int .i64 t270) := (blk_cell BK264.out 1).trans rfl; have hcz140_2 : w139.cell? ⟨gb264, 2, none⟩ = some (.int .i64 t271) := (blk_cell BK264.out 2).trans rfl; have hcz140_3 : w139.cell? ⟨gb264, 3, none⟩ = some (.int .i64 t272) := (blk_cell BK264.out 3).trans rfl; have hcz140_4 : w139.cell? ⟨gb264, 4, none⟩ = some (.slice Ao30 t273.length co30) := (blk_cell BK264.out 4).trans rfl; have hfz140_0 := blk_frozen BK264.out 0; have hfz140_1 := blk_frozen BK264.out 1; have hfz140_2 := blk_frozen BK264.out 2; have hfz140_3 := blk_frozen BK264.out 3; have hfz140_4 := blk_frozen BK264.out 4; have hnb141 := NB265_267.out; have hnc141 := NB267_265.out; have hcz142_0 : w139.cell? ⟨gb265, 0, none⟩ = some (.int .i64 t276) := (blk_cell BK265.out 0).trans rfl; have hcz142_1 : w139.cell? ⟨gb265, 1, none⟩ = some (.int .i64 t277) := (blk_cell BK265.out 1).trans rfl; have hcz142_2 : w139.cell? ⟨gb265, 2, none⟩ = some (.int .i64 t278) := (blk_cell BK265.out 2).trans rfl; have hcz142_3 : w139.cell? ⟨gb265, 3, none⟩ = some (.int .i64 t279) := (blk_cell BK265.out 3).trans rfl; have hcz142_4 : w139.cell? ⟨gb265, 4, none⟩ = some (.slice Ao36 t280.length co36) := (blk_cell BK265.out 4).trans rfl; have hfz142_0 := blk_frozen BK265.out 0; have hfz142_1 := blk_frozen BK265.out 1; have hfz142_2 := blk_frozen BK265.out 2; have hfz142_3 := blk_frozen BK265.out 3; have hfz142_4 := blk_frozen BK265.out 4) | (go_at_call 32; (with_reducible refine (hortatorlaw7_sameConfig.calls k t269 t270 t271 t272 _ _ t273 t276 t277 t278 t279 _ _ t280 t303 _ ?side1 ?side2 ?side3 ?side4 A129.out).mono ?_); (case side1 => repeat ((exact (Kd.R_reads' HO275.out).2.2))); (case side2 => exact (Kd.R_reads' HO275.out).2.1); (case side3 => repeat ((exact (Kd.R_reads' HO282.out).2.2))); (case side4 => exact (Kd.R_reads' HO282.out).2.1); rintro e w143 ⟨rfl, hb⟩; replace HO275 := Aside0.mk (Kd.R_below HO275.out hb); replace HO282 := Aside0.mk (Kd.R_below HO282.out hb); replace HO288 := Aside0.mk (Kd.R_below HO288.out hb); replace HO294 := Aside0.mk (Kd.R_below HO294.out hb); replace BK264 := Aside0.mk (blk_below BK264.out hb); replace BK265 := Aside0.mk (blk_below BK265.out hb); replace BK266 := Aside0.mk (blk_below BK266.out hb); replace BK267 := Aside0.mk (blk_below BK267.out hb); replace HB := Aside0.mk (below_step HB.out hb); (try clear hb); (try clear hb2); (try clear hk); (try clear hi)))
        go_meet
        case rel => exact ⟨_, (true), (by (rfl)), H', ⟨by (omega)⟩, ⟨HO275.out⟩, ⟨HO282.out⟩, ⟨HO288.out⟩, ⟨HO294.out⟩, ⟨BK264.out⟩, ⟨BK265.out⟩, ⟨BK266.out⟩, ⟨BK267.out⟩, ⟨HB.out⟩⟩
       ·rw [if_neg c130] at H
        have c130b0 : ((t295.toList == t296.toList) != t303) = false := by simpa using c130
        (try (have c130b1 : decide ((t295.toList == t296.toList) = t303) = true := by simpa using c130))
        (try (have c130b2 : ((t295.toList == t296.toList) == t303) = true := by simpa using c130))
        clear c130
        by_cases c144 : t297.toList = ([] : List UInt8)
        ·rw [if_pos c144] at H
         have c144b0 : (t297.toList == ([] : List UInt8)) = true := beq_iff_eq.mpr c144
         have c144b1 : (t297.toList != ([] : List UInt8)) = false := bne_eq_false_iff_eq.mpr c144
         clear c144
         have H' := Aside0.mk H
         clear H
         have hnb145 := NB264_265.out
         have hnc145 := NB265_264.out
         have hnb146 := NB264_266.out
         have hnc146 := NB266_264.out
         have hnb147 := NB264_267.out
         have hnc147 := NB267_264.out
         have hcz148_0 : w54.cell? ⟨gb264, 0, none⟩ = some (.int .i64 t269) := (blk_cell BK264.out 0).trans rfl
         have hcz148_1 : w54.cell? ⟨gb264, 1, none⟩ = some (.int .i64 t270) := (blk_cell BK264.out 1).trans rfl
         have hcz148_2 : w54.cell? ⟨gb264, 2, none⟩ = some (.int .i64 t271) := (blk_cell BK264.out 2).trans rfl
         have hcz148_3 : w54.cell? ⟨gb264, 3, none⟩ = some (.int .i64 t272) := (blk_cell BK264.out 3).trans rfl
         have hcz148_4 : w54.cell? ⟨gb264, 4, none⟩ = some (.slice Ao30 t273.length co30) := (blk_cell BK264.out 4).trans rfl
         have hfz148_0 := blk_frozen BK264.out 0
         have hfz148_1 := blk_frozen BK264.out 1
         have hfz148_2 := blk_frozen BK264.out 2
         have hfz148_3 := blk_frozen BK264.out 3
         have hfz148_4 := blk_frozen BK264.out 4
         go_wp2_with (first | ((with_reducible refine gate_callee (f := 30) rfl ?_); refine goesL_ (some 39) rfl rfl Tryz.func30 (by kernel_rfl) rfl #[.agg #[.int .i64 t269, .int .i64 t270, .int .i64 t271, .int .i64 t272, .slice Ao30 t273.length co30]] rfl (by (try simp only [List.map_toArray, List.map_cons, List.map_nil]); (rfl)) ?_; (with_reducible refine (hortatorref7_PutConfig.calls k t269 t270 t271 t272 _ _ t273 t299 _ ?side1 ?side2 A55.out).mono ?_); (case side1 => repeat ((exact (Kd.R_reads' HO275.out).2.2))); (case side2 => exact (Kd.R_reads' HO275.out).2.1); rintro e w149 ⟨rfl, hb⟩; refine ⟨_, rfl, ?_⟩; replace HO275 := Aside0.mk (Kd.R_below HO275.out hb); replace HO282 := Aside0.mk (Kd.R_below HO282.out hb); replace HO288 := Aside0.mk (Kd.R_below HO288.out hb); replace HO294 := Aside0.mk (Kd.R_below HO294.out hb); replace BK264 := Aside0.mk (blk_below BK264.out hb); replace BK265 := Aside0.mk (blk_below BK265.out hb); replace BK266 := Aside0.mk (blk_below BK266.out hb); replace BK267 := Aside0.mk (blk_below BK267.out hb); replace HB := Aside0.mk (below_step HB.out hb); (try clear hb); (try clear hb2); (try clear hk); (try clear hi); have hnb150 := NB266_265.out; have hnc150 := NB265_266.out; have hnb151 := NB266_267.out; have hnc151 := NB267_266.out; have hcz152_0 : w149.cell? ⟨gb266, 0, none⟩ = some (.int .i64 t283) := (blk_cell BK266.out 0).trans rfl; have hcz152_1 : w149.cell? ⟨gb266, 1, none⟩ = some (.int .i64 t284) := (blk_cell BK266.out 1).trans rfl; have hcz152_2 : w149.cell? ⟨gb266, 2, none⟩ = some (.int .i64 t285) := (blk_cell BK266.out 2).trans rfl; have hcz152_3 : w149.cell? ⟨gb266, 3, none⟩ = some (.slice Ao41 t286.length co41) := (blk_cell BK266.out 3).trans rfl; have hfz152_0 := blk_frozen BK266.out 0; have hfz152_1 := blk_frozen BK266.out 1; have hfz152_2 := blk_frozen BK266.out 2; have hfz152_3 := blk_frozen BK266.out 3) | (go_at_call 31; (with_reducible refine (hortatorref7_PutTask.calls k t283 t284 t285 _ _ t286 t300 _ ?side1 ?side2 A57.out).mono ?_); (case side1 => repeat ((exact (Kd.R_reads' HO288.out).2.2))); (case side2 => exact (Kd.R_reads' HO288.out).2.1); rintro e w153 ⟨rfl, hb⟩; replace HO275 := Aside0.mk (Kd.R_below HO275.out hb); replace HO282 := Aside0.mk (Kd.R_below HO282.out hb); replace HO288 := Aside0.mk (Kd.R_below HO288.out hb); replace HO294 := Aside0.mk (Kd.R_below HO294.out hb); replace BK264 := Aside0.mk (blk_below BK264.out hb); replace BK265 := Aside0.mk (blk_below BK265.out hb); replace BK266 := Aside0.mk (blk_below BK266.out hb); replace BK267 := Aside0.mk (blk_below BK267.out hb); replace HB := Aside0.mk (below_step HB.out hb); (try clear hb); (try clear hb2); (try clear hk); (try clear hi); have hcz154_0 : w153.cell? ⟨gb264, 0, none⟩ = some (.int .i64 t269) := (blk_cell BK264.out 0).trans rfl; have hcz154_1 : w153.cell? ⟨gb264, 1, none⟩ = some (.int .i64 t270) := (blk_cell BK264.out 1).trans rfl; have hcz154_2 : w153.cell? ⟨gb264, 2, none⟩ = some (.int .i64 t271) := (blk_cell BK264.out 2).trans rfl; have hcz154_3 : w153.cell? ⟨gb264, 3, none⟩ = some (.int .i64 t272) := (blk_cell BK264.out 3).trans rfl; have hcz154_4 : w153.cell? ⟨gb264, 4, none⟩ = some (.slice Ao30 t273.length co30) := (blk_cell BK264.out 4).trans rfl; have hfz154_0 := blk_frozen BK264.out 0; have hfz154_1 := blk_frozen BK264.out 1; have hfz154_2 := blk_frozen BK264.out 2; have hfz154_3 := blk_frozen BK264.out 3; have hfz154_4 := blk_frozen BK264.out 4; have hnb155 := NB265_267.out; have hnc155 := NB267_265.out; have hcz156_0 : w153.cell? ⟨gb265, 0, none⟩ = some (.int .i64 t276) := (blk_cell BK265.out 0).trans rfl; have hcz156_1 : w153.cell? ⟨gb265, 1, none⟩ = some (.int .i64 t277) := (blk_cell BK265.out 1).trans rfl; have hcz156_2 : w153.cell? ⟨gb265, 2, none⟩ = some (.int .i64 t278) := (blk_cell BK265.out 2).trans rfl; have hcz156_3 : w153.cell? ⟨gb265, 3, none⟩ = some (.int .i64 t279) := (blk_cell BK265.out 3).trans rfl; have hcz156_4 : w153.cell? ⟨gb265, 4, none⟩ = some (.slice Ao36 t280.length co36) := (blk_cell BK265.out 4).trans rfl; have hfz156_0 := blk_frozen BK265.out 0; have hfz156_1 := blk_frozen BK265.out 1; have hfz156_2 := blk_frozen BK265.out 2; have hfz156_3 := blk_frozen BK265.out 3; have hfz156_4 := blk_frozen BK265.out 4) | (go_at_call 32; (with_reducible refine (hortatorlaw7_sameConfig.calls k t269 t270 t271 t272 _ _ t273 t276 t277 t278 t279 _ _ t280 t303 _ ?side1 ?side2 ?side3 ?side4 A129.out).mono ?_); (case side1 => repeat ((exact (Kd.R_reads' HO275.out).2.2))); (case side2 => exact (Kd.R_reads' HO275.out).2.1); (case side3 => repeat ((exact (Kd.R_reads' HO282.out).2.2))); (case side4 => exact (Kd.R_reads' HO282.out).2.1); rintro e w157 ⟨rfl, hb⟩; replace HO275 := Aside0.mk (Kd.R_below HO275.out hb); replace HO282 := Aside0.mk (Kd.R_below HO282.out hb); replace HO288 := Aside0.mk (Kd.R_below HO288.out hb); replace HO294 := Aside0.mk (Kd.R_below HO294.out hb); replace BK264 := Aside0.mk (blk_below BK264.out hb); replace BK265 := Aside0.mk (blk_below BK265.out hb); replace BK266 := Aside0.mk (blk_below BK266.out hb); replace BK267 := Aside0.mk (blk_below BK267.out hb); replace HB := Aside0.mk (below_step HB.out hb); (try clear hb); (try clear hb2); (try clear hk); (try clear hi)))
         go_meet
         case rel => exact ⟨_, (false), (by (rfl)), H', ⟨by (omega)⟩, ⟨HO275.out⟩, ⟨HO282.out⟩, ⟨HO288.out⟩, ⟨HO294.out⟩, ⟨BK264.out⟩, ⟨BK265.out⟩, ⟨BK266.out⟩, ⟨BK267.out⟩, ⟨HB.out⟩⟩
        ·rw [if_neg c144] at H
         have c144b0 : (t297.toList == ([] : List UInt8)) = false := beq_eq_false_iff_ne.mpr c144
         have c144b1 : (t297.toList != ([] : List UInt8)) = true := bne_iff_ne.mpr c144
         by_cases c158 : t298.toList = ([] : List UInt8)
         ·rw [if_pos c158] at H
          have c158b0 : (t298.toList == ([] : List UInt8)) = true := beq_iff_eq.mpr c158
          have c158b1 : (t298.toList != ([] : List UInt8)) = false := bne_eq_false_iff_eq.mpr c158
          clear c158
          have H' := Aside0.mk H
          clear H
          have hnb159 := NB264_265.out
          have hnc159 := NB265_264.out
          have hnb160 := NB264_266.out
          have hnc160 := NB266_264.out
          have hnb161 := NB264_267.out
          have hnc161 := NB267_264.out
          have hcz162_0 : w54.cell? ⟨gb264, 0, none⟩ = some (.int .i64 t269) := (blk_cell BK264.out 0).trans rfl
          have hcz162_1 : w54.cell? ⟨gb264, 1, none⟩ = some (.int .i64 t270) := (blk_cell BK264.out 1).trans rfl
          have hcz162_2 : w54.cell? ⟨gb264, 2, none⟩ = some (.int .i64 t271) := (blk_cell BK264.out 2).trans rfl
          have hcz162_3 : w54.cell? ⟨gb264, 3, none⟩ = some (.int .i64 t272) := (blk_cell BK264.out 3).trans rfl
          have hcz162_4 : w54.cell? ⟨gb264, 4, none⟩ = some (.slice Ao30 t273.length co30) := (blk_cell BK264.out 4).trans rfl
          have hfz162_0 := blk_frozen BK264.out 0
          have hfz162_1 := blk_frozen BK264.out 1
          have hfz162_2 := blk_frozen BK264.out 2
          have hfz162_3 := blk_frozen BK264.out 3
          have hfz162_4 := blk_frozen BK264.out 4
          go_wp2_with (first | ((with_reducible refine gate_callee (f := 30) rfl ?_); refine goesL_ (some 39) rfl rfl Tryz.func30 (by kernel_rfl) rfl #[.agg #[.int .i64 t269, .int .i64 t270, .int .i64 t271, .int .i64 t272, .slice Ao30 t273.length co30]] rfl (by (try simp only [List.map_toArray, List.map_cons, List.map_nil]); (rfl)) ?_; (with_reducible refine (hortatorref7_PutConfig.calls k t269 t270 t271 t272 _ _ t273 t299 _ ?side1 ?side2 A55.out).mono ?_); (case side1 => repeat ((exact (Kd.R_reads' HO275.out).2.2))); (case side2 => exact (Kd.R_reads' HO275.out).2.1); rintro e w163 ⟨rfl, hb⟩; refine ⟨_, rfl, ?_⟩; replace HO275 := Aside0.mk (Kd.R_below HO275.out hb); replace HO282 := Aside0.mk (Kd.R_below HO282.out hb); replace HO288 := Aside0.mk (Kd.R_below HO288.out hb); replace HO294 := Aside0.mk (Kd.R_below HO294.out hb); replace BK264 := Aside0.mk (blk_below BK264.out hb); replace BK265 := Aside0.mk (blk_below BK265.out hb); replace BK266 := Aside0.mk (blk_below BK266.out hb); replace BK267 := Aside0.mk (blk_below BK267.out hb); replace HB := Aside0.mk (below_step HB.out hb); (try clear hb); (try clear hb2); (try clear hk); (try clear hi); have hnb164 := NB266_265.out; have hnc164 := NB265_266.out; have hnb165 := NB266_267.out; have hnc165 := NB267_266.out; have hcz166_0 : w163.cell? ⟨gb266, 0, none⟩ = some (.int .i64 t283) := (blk_cell BK266.out 0).trans rfl; have hcz166_1 : w163.cell? ⟨gb266, 1, none⟩ = some (.int .i64 t284) := (blk_cell BK266.out 1).trans rfl; have hcz166_2 : w163.cell? ⟨gb266, 2, none⟩ = some (.int .i64 t285) := (blk_cell BK266.out 2).trans rfl; have hcz166_3 : w163.cell? ⟨gb266, 3, none⟩ = some (.slice Ao41 t286.length co41) := (blk_cell BK266.out 3).trans rfl; have hfz166_0 := blk_frozen BK266.out 0; have hfz166_1 := blk_frozen BK266.out 1; have hfz166_2 := blk_frozen BK266.out 2; have hfz166_3 := blk_frozen BK266.out 3) | (go_at_call 31; (with_reducible refine (hortatorref7_PutTask.calls k t283 t284 t285 _ _ t286 t300 _ ?side1 ?side2 A57.out).mono ?_); (case side1 => repeat ((exact (Kd.R_reads' HO288.out).2.2))); (case side2 => exact (Kd.R_reads' HO288.out).2.1); rintro e w167 ⟨rfl, hb⟩; replace HO275 := Aside0.mk (Kd.R_below HO275.out hb); replace HO282 := Aside0.mk (Kd.R_below HO282.out hb); replace HO288 := Aside0.mk (Kd.R_below HO288.out hb); replace HO294 := Aside0.mk (Kd.R_below HO294.out hb); replace BK264 := Aside0.mk (blk_below BK264.out hb); replace BK265 := Aside0.mk (blk_below BK265.out hb); replace BK266 := Aside0.mk (blk_below BK266.out hb); replace BK267 := Aside0.mk (blk_below BK267.out hb); replace HB := Aside0.mk (below_step HB.out hb); (try clear hb); (try clear hb2); (try clear hk); (try clear hi); have hcz168_0 : w167.cell? ⟨gb264, 0, none⟩ = some (.int .i64 t269) := (blk_cell BK264.out 0).trans rfl; have hcz168_1 : w167.cell? ⟨gb264, 1, none⟩ = some (.int .i64 t270) := (blk_cell BK264.out 1).trans rfl; have hcz168_2 : w167.cell? ⟨gb264, 2, none⟩ = some (.int .i64 t271) := (blk_cell BK264.out 2).trans rfl; have hcz168_3 : w167.cell? ⟨gb264, 3, none⟩ = some (.int .i64 t272) := (blk_cell BK264.out 3).trans rfl; have hcz168_4 : w167.cell? ⟨gb264, 4, none⟩ = some (.slice Ao30 t273.length co30) := (blk_cell BK264.out 4).trans rfl; have hfz168_0 := blk_frozen BK264.out 0; have hfz168_1 := blk_frozen BK264.out 1; have hfz168_2 := blk_frozen BK264.out 2; have hfz168_3 := blk_frozen BK264.out 3; have hfz168_4 := blk_frozen BK264.out 4; have hnb169 := NB265_267.out; have hnc169 := NB267_265.out; have hcz170_0 : w167.cell? ⟨gb265, 0, none⟩ = some (.int .i64 t276) := (blk_cell BK265.out 0).trans rfl; have hcz170_1 : w167.cell? ⟨gb265, 1, none⟩ = some (.int .i64 t277) := (blk_cell BK265.out 1).trans rfl; have hcz170_2 : w167.cell? ⟨gb265, 2, none⟩ = some (.int .i64 t278) := (blk_cell BK265.out 2).trans rfl; have hcz170_3 : w167.cell? ⟨gb265, 3, none⟩ = some (.int .i64 t279) := (blk_cell BK265.out 3).trans rfl; have hcz170_4 : w167.cell? ⟨gb265, 4, none⟩ = some (.slice Ao36 t280.length co36) := (blk_cell BK265.out 4).trans rfl; have hfz170_0 := blk_frozen BK265.out 0; have hfz170_1 := blk_frozen BK265.out 1; have hfz170_2 := blk_frozen BK265.out 2; have hfz170_3 := blk_frozen BK265.out 3; have hfz170_4 := blk_frozen BK265.out 4) | (go_at_call 32; (with_reducible refine (hortatorlaw7_sameConfig.calls k t269 t270 t271 t272 _ _ t273 t276 t277 t278 t279 _ _ t280 t303 _ ?side1 ?side2 ?side3 ?side4 A129.out).mono ?_); (case side1 => repeat ((exact (Kd.R_reads' HO275.out).2.2))); (case side2 => exact (Kd.R_reads' HO275.out).2.1); (case side3 => repeat ((exact (Kd.R_reads' HO282.out).2.2))); (case side4 => exact (Kd.R_reads' HO282.out).2.1); rintro e w171 ⟨rfl, hb⟩; replace HO275 := Aside0.mk (Kd.R_below HO275.out hb); replace HO282 := Aside0.mk (Kd.R_below HO282.out hb); replace HO288 := Aside0.mk (Kd.R_below HO288.out hb); replace HO294 := Aside0.mk (Kd.R_below HO294.out hb); replace BK264 := Aside0.mk (blk_below BK264.out hb); replace BK265 := Aside0.mk (blk_below BK265.out hb); replace BK266 := Aside0.mk (blk_below BK266.out hb); replace BK267 := Aside0.mk (blk_below BK267.out hb); replace HB := Aside0.mk (below_step HB.out hb); (try clear hb); (try clear hb2); (try clear hk); (try clear hi)))
          go_meet
          case rel => exact ⟨_, (false), (by (rfl)), H', ⟨by (omega)⟩, ⟨HO275.out⟩, ⟨HO282.out⟩, ⟨HO288.out⟩, ⟨HO294.out⟩, ⟨BK264.out⟩, ⟨BK265.out⟩, ⟨BK266.out⟩, ⟨BK267.out⟩, ⟨HB.out⟩⟩
         ·rw [if_neg c158] at H
          have c158b0 : (t298.toList == ([] : List UInt8)) = false := beq_eq_false_iff_ne.mpr c158
          have c158b1 : (t298.toList != ([] : List UInt8)) = true := bne_iff_ne.mpr c158
          replace H := Option.bind_eq_some_iff.mp H
          obtain ⟨t304, A1720, H⟩ := H
          have A172 := Aside0.mk A1720
          clear A1720
          have H' := Aside0.mk H
          clear H
          have hnb173 := NB264_265.out
          have hnc173 := NB265_264.out
          have hnb174 := NB264_266.out
          have hnc174 := NB266_264.out
          have hnb175 := NB264_267.out
          have hnc175 := NB267_264.out
          have hcz176_0 : w54.cell? ⟨gb264, 0, none⟩ = some (.int .i64 t269) := (blk_cell BK264.out 0).trans rfl
          have hcz176_1 : w54.cell? ⟨gb264, 1, none⟩ = some (.int .i64 t270) := (blk_cell BK264.out 1).trans rfl
          have hcz176_2 : w54.cell? ⟨gb264, 2, none⟩ = some (.int .i64 t271) := (blk_cell BK264.out 2).trans rfl
          have hcz176_3 : w54.cell? ⟨gb264, 3, none⟩ = some (.int .i64 t272) := (blk_cell BK264.out 3).trans rfl
          have hcz176_4 : w54.cell? ⟨gb264, 4, none⟩ = some (.slice Ao30 t273.length co30) := (blk_cell BK264.out 4).trans rfl
          have hfz176_0 := blk_frozen BK264.out 0
          have hfz176_1 := blk_frozen BK264.out 1
          have hfz176_2 := blk_frozen BK264.out 2
          have hfz176_3 := blk_frozen BK264.out 3
          have hfz176_4 := blk_frozen BK264.out 4
          go_wp2_with (first | ((with_reducible refine gate_callee (f := 30) rfl ?_); refine goesL_ (some 39) rfl rfl Tryz.func30 (by kernel_rfl) rfl #[.agg #[.int .i64 t269, .int .i64 t270, .int .i64 t271, .int .i64 t272, .slice Ao30 t273.length co30]] rfl (by (try simp only [List.map_toArray, List.map_cons, List.map_nil]); (rfl)) ?_; (with_reducible refine (hortatorref7_PutConfig.calls k t269 t270 t271 t272 _ _ t273 t299 _ ?side1 ?side2 A55.out).mono ?_); (case side1 => repeat ((exact (Kd.R_reads' HO275.out).2.2))); (case side2 => exact (Kd.R_reads' HO275.out).2.1); rintro e w177 ⟨rfl, hb⟩; refine ⟨_, rfl, ?_⟩; replace HO275 := Aside0.mk (Kd.R_below HO275.out hb); replace HO282 := Aside0.mk (Kd.R_below HO282.out hb); replace HO288 := Aside0.mk (Kd.R_below HO288.out hb); replace HO294 := Aside0.mk (Kd.R_below HO294.out hb); replace BK264 := Aside0.mk (blk_below BK264.out hb); replace BK265 := Aside0.mk (blk_below BK265.out hb); replace BK266 := Aside0.mk (blk_below BK266.out hb); replace BK267 := Aside0.mk (blk_below BK267.out hb); replace HB := Aside0.mk (below_step HB.out hb); (try clear hb); (try clear hb2); (try clear hk); (try clear hi); have hnb178 := NB266_265.out; have hnc178 := NB265_266.out; have hnb179 := NB266_267.out; have hnc179 := NB267_266.out; have hcz180_0 : w177.cell? ⟨gb266, 0, none⟩ = some (.int .i64 t283) := (blk_cell BK266.out 0).trans rfl; have hcz180_1 : w177.cell? ⟨gb266, 1, none⟩ = some (.int .i64 t284) := (blk_cell BK266.out 1).trans rfl; have hcz180_2 : w177.cell? ⟨gb266, 2, none⟩ = some (.int .i64 t285) := (blk_cell BK266.out 2).trans rfl; have hcz180_3 : w177.cell? ⟨gb266, 3, none⟩ = some (.slice Ao41 t286.length co41) := (blk_cell BK266.out 3).trans rfl; have hfz180_0 := blk_frozen BK266.out 0; have hfz180_1 := blk_frozen BK266.out 1; have hfz180_2 := blk_frozen BK266.out 2; have hfz180_3 := blk_frozen BK266.out 3) | (go_at_call 31; (with_reducible refine (hortatorref7_PutTask.calls k t283 t284 t285 _ _ t286 t300 _ ?side1 ?side2 A57.out).mono ?_); (case side1 => repeat ((exact (Kd.R_reads' HO288.out).2.2))); (case side2 => exact (Kd.R_reads' HO288.out).2.1); rintro e w181 ⟨rfl, hb⟩; replace HO275 := Aside0.mk (Kd.R_below HO275.out hb); replace HO282 := Aside0.mk (Kd.R_below HO282.out hb); replace HO288 := Aside0.mk (Kd.R_below HO288.out hb); replace HO294 := Aside0.mk (Kd.R_below HO294.out hb); replace BK264 := Aside0.mk (blk_below BK264.out hb); replace BK265 := Aside0.mk (blk_below BK265.out hb); replace BK266 := Aside0.mk (blk_below BK266.out hb); replace BK267 := Aside0.mk (blk_below BK267.out hb); replace HB := Aside0.mk (below_step HB.out hb); (try clear hb); (try clear hb2); (try clear hk); (try clear hi); have hcz182_0 : w181.cell? ⟨gb264, 0, none⟩ = some (.int .i64 t269) := (blk_cell BK264.out 0).trans rfl; have hcz182_1 : w181.cell? ⟨gb264, 1, none⟩ = some (.int .i64 t270) := (blk_cell BK264.out 1).trans rfl; have hcz182_2 : w181.cell? ⟨gb264, 2, none⟩ = some (.int .i64 t271) := (blk_cell BK264.out 2).trans rfl; have hcz182_3 : w181.cell? ⟨gb264, 3, none⟩ = some (.int .i64 t272) := (blk_cell BK264.out 3).trans rfl; have hcz182_4 : w181.cell? ⟨gb264, 4, none⟩ = some (.slice Ao30 t273.length co30) := (blk_cell BK264.out 4).trans rfl; have hfz182_0 := blk_frozen BK264.out 0; have hfz182_1 := blk_frozen BK264.out 1; have hfz182_2 := blk_frozen BK264.out 2; have hfz182_3 := blk_frozen BK264.out 3; have hfz182_4 := blk_frozen BK264.out 4; have hnb183 := NB265_267.out; have hnc183 := NB267_265.out; have hcz184_0 : w181.cell? ⟨gb265, 0, none⟩ = some (.int .i64 t276) := (blk_cell BK265.out 0).trans rfl; have hcz184_1 : w181.cell? ⟨gb265, 1, none⟩ = some (.int .i64 t277) := (blk_cell BK265.out 1).trans rfl; have hcz184_2 : w181.cell? ⟨gb265, 2, none⟩ = some (.int .i64 t278) := (blk_cell BK265.out 2).trans rfl; have hcz184_3 : w181.cell? ⟨gb265, 3, none⟩ = some (.int .i64 t279) := (blk_cell BK265.out 3).trans rfl; have hcz184_4 : w181.cell? ⟨gb265, 4, none⟩ = some (.slice Ao36 t280.length co36) := (blk_cell BK265.out 4).trans rfl; have hfz184_0 := blk_frozen BK265.out 0; have hfz184_1 := blk_frozen BK265.out 1; have hfz184_2 := blk_frozen BK265.out 2; have hfz184_3 := blk_frozen BK265.out 3; have hfz184_4 := blk_frozen BK265.out 4) | (go_at_call 32; (with_reducible refine (hortatorlaw7_sameConfig.calls k t269 t270 t271 t272 _ _ t273 t276 t277 t278 t279 _ _ t280 t303 _ ?side1 ?side2 ?side3 ?side4 A129.out).mono ?_); (case side1 => repeat ((exact (Kd.R_reads' HO275.out).2.2))); (case side2 => exact (Kd.R_reads' HO275.out).2.1); (case side3 => repeat ((exact (Kd.R_reads' HO282.out).2.2))); (case side4 => exact (Kd.R_reads' HO282.out).2.1); rintro e w185 ⟨rfl, hb⟩; replace HO275 := Aside0.mk (Kd.R_below HO275.out hb); replace HO282 := Aside0.mk (Kd.R_below HO282.out hb); replace HO288 := Aside0.mk (Kd.R_below HO288.out hb); replace HO294 := Aside0.mk (Kd.R_below HO294.out hb); replace BK264 := Aside0.mk (blk_below BK264.out hb); replace BK265 := Aside0.mk (blk_below BK265.out hb); replace BK266 := Aside0.mk (blk_below BK266.out hb); replace BK267 := Aside0.mk (blk_below BK267.out hb); replace HB := Aside0.mk (below_step HB.out hb); (try clear hb); (try clear hb2); (try clear hk); (try clear hi); have hcz186_0 : w185.cell? ⟨gb266, 0, none⟩ = some (.int .i64 t283) := (blk_cell BK266.out 0).trans rfl; have hcz186_1 : w185.cell? ⟨gb266, 1, none⟩ = some (.int .i64 t284) := (blk_cell BK266.out 1).trans rfl; have hcz186_2 : w185.cell? ⟨gb266, 2, none⟩ = some (.int .i64 t285) := (blk_cell BK266.out 2).trans rfl; have hcz186_3 : w185.cell? ⟨gb266, 3, none⟩ = some (.slice Ao41 t286.length co41) := (blk_cell BK266.out 3).trans rfl; have hfz186_0 := blk_frozen BK266.out 0; have hfz186_1 := blk_frozen BK266.out 1; have hfz186_2 := blk_frozen BK266.out 2; have hfz186_3 := blk_frozen BK266.out 3; have hcz187_0 : w185.cell? ⟨gb267, 0, none⟩ = some (.int .i64 t289) := (blk_cell BK267.out 0).trans rfl; have hcz187_1 : w185.cell? ⟨gb267, 1, none⟩ = some (.int .i64 t290) := (blk_cell BK267.out 1).trans rfl; have hcz187_2 : w185.cell? ⟨gb267, 2, none⟩ = some (.int .i64 t291) := (blk_cell BK267.out 2).trans rfl; have hcz187_3 : w185.cell? ⟨gb267, 3, none⟩ = some (.slice Ao46 t292.length co46) := (blk_cell BK267.out 3).trans rfl; have hfz187_0 := blk_frozen BK267.out 0; have hfz187_1 := blk_frozen BK267.out 1; have hfz187_2 := blk_frozen BK267.out 2; have hfz187_3 := blk_frozen BK267.out 3) | (go_at_call 18; (with_reducible refine (rule_Same.calls k t283 t284 t285 _ _ t286 t289 t290 t291 _ _ t292 t304 _ ?side1 ?side2 ?side3 ?side4 A172.out).mono ?_); (case side1 => repeat ((exact (Kd.R_reads' HO288.out).2.2))); (case side2 => exact (Kd.R_reads' HO288.out).2.1); (case side3 => repeat ((exact (Kd.R_reads' HO294.out).2.2))); (case side4 => exact (Kd.R_reads' HO294.out).2.1); rintro e w188 ⟨rfl, hb⟩; replace HO275 := Aside0.mk (Kd.R_below HO275.out hb); replace HO282 := Aside0.mk (Kd.R_below HO282.out hb); replace HO288 := Aside0.mk (Kd.R_below HO288.out hb); replace HO294 := Aside0.mk (Kd.R_below HO294.out hb); replace BK264 := Aside0.mk (blk_below BK264.out hb); replace BK265 := Aside0.mk (blk_below BK265.out hb); replace BK266 := Aside0.mk (blk_below BK266.out hb); replace BK267 := Aside0.mk (blk_below BK267.out hb); replace HB := Aside0.mk (below_step HB.out hb); (try clear hb); (try clear hb2); (try clear hk); (try clear hi)))
          go_meet
          case rel => exact ⟨_, (((t297.toList == t298.toList) != t304)), (by (rfl)), H', ⟨by (omega)⟩, ⟨HO275.out⟩, ⟨HO282.out⟩, ⟨HO288.out⟩, ⟨HO294.out⟩, ⟨BK264.out⟩, ⟨BK265.out⟩, ⟨BK266.out⟩, ⟨BK267.out⟩, ⟨HB.out⟩⟩
    ·rw [if_neg c58] at H
     have c58b0 : (t297.toList == t300.toList) = false := beq_eq_false_iff_ne.mpr c58
     have c58b1 : (t297.toList != t300.toList) = true := bne_iff_ne.mpr c58
     have H' := Aside0.mk H
     clear H
     have hnb189 := NB264_265.out
     have hnc189 := NB265_264.out
     have hnb190 := NB264_266.out
     have hnc190 := NB266_264.out
     have hnb191 := NB264_267.out
     have hnc191 := NB267_264.out
     have hcz192_0 : w54.cell? ⟨gb264, 0, none⟩ = some (.int .i64 t269) := (blk_cell BK264.out 0).trans rfl
     have hcz192_1 : w54.cell? ⟨gb264, 1, none⟩ = some (.int .i64 t270) := (blk_cell BK264.out 1).trans rfl
     have hcz192_2 : w54.cell? ⟨gb264, 2, none⟩ = some (.int .i64 t271) := (blk_cell BK264.out 2).trans rfl
     have hcz192_3 : w54.cell? ⟨gb264, 3, none⟩ = some (.int .i64 t272) := (blk_cell BK264.out 3).trans rfl
     have hcz192_4 : w54.cell? ⟨gb264, 4, none⟩ = some (.slice Ao30 t273.length co30) := (blk_cell BK264.out 4).trans rfl
     have hfz192_0 := blk_frozen BK264.out 0
     have hfz192_1 := blk_frozen BK264.out 1
     have hfz192_2 := blk_frozen BK264.out 2
     have hfz192_3 := blk_frozen BK264.out 3
     have hfz192_4 := blk_frozen BK264.out 4
     go_wp2_with (first | ((with_reducible refine gate_callee (f := 30) rfl ?_); refine goesL_ (some 39) rfl rfl Tryz.func30 (by kernel_rfl) rfl #[.agg #[.int .i64 t269, .int .i64 t270, .int .i64 t271, .int .i64 t272, .slice Ao30 t273.length co30]] rfl (by (try simp only [List.map_toArray, List.map_cons, List.map_nil]); (rfl)) ?_; (with_reducible refine (hortatorref7_PutConfig.calls k t269 t270 t271 t272 _ _ t273 t299 _ ?side1 ?side2 A55.out).mono ?_); (case side1 => repeat ((exact (Kd.R_reads' HO275.out).2.2))); (case side2 => exact (Kd.R_reads' HO275.out).2.1); rintro e w193 ⟨rfl, hb⟩; refine ⟨_, rfl, ?_⟩; replace HO275 := Aside0.mk (Kd.R_below HO275.out hb); replace HO282 := Aside0.mk (Kd.R_below HO282.out hb); replace HO288 := Aside0.mk (Kd.R_below HO288.out hb); replace HO294 := Aside0.mk (Kd.R_below HO294.out hb); replace BK264 := Aside0.mk (blk_below BK264.out hb); replace BK265 := Aside0.mk (blk_below BK265.out hb); replace BK266 := Aside0.mk (blk_below BK266.out hb); replace BK267 := Aside0.mk (blk_below BK267.out hb); replace HB := Aside0.mk (below_step HB.out hb); (try clear hb); (try clear hb2); (try clear hk); (try clear hi); have hnb194 := NB266_265.out; have hnc194 := NB265_266.out; have hnb195 := NB266_267.out; have hnc195 := NB267_266.out; have hcz196_0 : w193.cell? ⟨gb266, 0, none⟩ = some (.int .i64 t283) := (blk_cell BK266.out 0).trans rfl; have hcz196_1 : w193.cell? ⟨gb266, 1, none⟩ = some (.int .i64 t284) := (blk_cell BK266.out 1).trans rfl; have hcz196_2 : w193.cell? ⟨gb266, 2, none⟩ = some (.int .i64 t285) := (blk_cell BK266.out 2).trans rfl; have hcz196_3 : w193.cell? ⟨gb266, 3, none⟩ = some (.slice Ao41 t286.length co41) := (blk_cell BK266.out 3).trans rfl; have hfz196_0 := blk_frozen BK266.out 0; have hfz196_1 := blk_frozen BK266.out 1; have hfz196_2 := blk_frozen BK266.out 2; have hfz196_3 := blk_frozen BK266.out 3) | (go_at_call 31; (with_reducible refine (hortatorref7_PutTask.calls k t283 t284 t285 _ _ t286 t300 _ ?side1 ?side2 A57.out).mono ?_); (case side1 => repeat ((exact (Kd.R_reads' HO288.out).2.2))); (case side2 => exact (Kd.R_reads' HO288.out).2.1); rintro e w197 ⟨rfl, hb⟩; replace HO275 := Aside0.mk (Kd.R_below HO275.out hb); replace HO282 := Aside0.mk (Kd.R_below HO282.out hb); replace HO288 := Aside0.mk (Kd.R_below HO288.out hb); replace HO294 := Aside0.mk (Kd.R_below HO294.out hb); replace BK264 := Aside0.mk (blk_below BK264.out hb); replace BK265 := Aside0.mk (blk_below BK265.out hb); replace BK266 := Aside0.mk (blk_below BK266.out hb); replace BK267 := Aside0.mk (blk_below BK267.out hb); replace HB := Aside0.mk (below_step HB.out hb); (try clear hb); (try clear hb2); (try clear hk); (try clear hi)))
     go_meet
     case rel => exact ⟨_, (true), (by (rfl)), H', ⟨by (omega)⟩, ⟨HO275.out⟩, ⟨HO282.out⟩, ⟨HO288.out⟩, ⟨HO294.out⟩, ⟨BK264.out⟩, ⟨BK265.out⟩, ⟨BK266.out⟩, ⟨BK267.out⟩, ⟨HB.out⟩⟩
   ·rw [if_neg c56] at H
    have c56b0 : (t295.toList == t299.toList) = false := beq_eq_false_iff_ne.mpr c56
    have c56b1 : (t295.toList != t299.toList) = true := bne_iff_ne.mpr c56
    ((skip))
    have H' := Aside0.mk H
    clear H
    have hnb198 := NB264_265.out
    have hnc198 := NB265_264.out
    have hnb199 := NB264_266.out
    have hnc199 := NB266_264.out
    have hnb200 := NB264_267.out
    have hnc200 := NB267_264.out
    have hcz201_0 : w54.cell? ⟨gb264, 0, none⟩ = some (.int .i64 t269) := (blk_cell BK264.out 0).trans rfl
    have hcz201_1 : w54.cell? ⟨gb264, 1, none⟩ = some (.int .i64 t270) := (blk_cell BK264.out 1).trans rfl
    have hcz201_2 : w54.cell? ⟨gb264, 2, none⟩ = some (.int .i64 t271) := (blk_cell BK264.out 2).trans rfl
    have hcz201_3 : w54.cell? ⟨gb264, 3, none⟩ = some (.int .i64 t272) := (blk_cell BK264.out 3).trans rfl
    have hcz201_4 : w54.cell? ⟨gb264, 4, none⟩ = some (.slice Ao30 t273.length co30) := (blk_cell BK264.out 4).trans rfl
    have hfz201_0 := blk_frozen BK264.out 0
    have hfz201_1 := blk_frozen BK264.out 1
    have hfz201_2 := blk_frozen BK264.out 2
    have hfz201_3 := blk_frozen BK264.out 3
    have hfz201_4 := blk_frozen BK264.out 4
    go_wp2_with (((with_reducible refine gate_callee (f := 30) rfl ?_); refine goesL_ (some 39) rfl rfl Tryz.func30 (by kernel_rfl) rfl #[.agg #[.int .i64 t269, .int .i64 t270, .int .i64 t271, .int .i64 t272, .slice Ao30 t273.length co30]] rfl (by (try simp only [List.map_toArray, List.map_cons, List.map_nil]); (rfl)) ?_; (with_reducible refine (hortatorref7_PutConfig.calls k t269 t270 t271 t272 _ _ t273 t299 _ ?side1 ?side2 A55.out).mono ?_); (case side1 => repeat ((exact (Kd.R_reads' HO275.out).2.2))); (case side2 => exact (Kd.R_reads' HO275.out).2.1); rintro e w202 ⟨rfl, hb⟩; refine ⟨_, rfl, ?_⟩; replace HO275 := Aside0.mk (Kd.R_below HO275.out hb); replace HO282 := Aside0.mk (Kd.R_below HO282.out hb); replace HO288 := Aside0.mk (Kd.R_below HO288.out hb); replace HO294 := Aside0.mk (Kd.R_below HO294.out hb); replace BK264 := Aside0.mk (blk_below BK264.out hb); replace BK265 := Aside0.mk (blk_below BK265.out hb); replace BK266 := Aside0.mk (blk_below BK266.out hb); replace BK267 := Aside0.mk (blk_below BK267.out hb); replace HB := Aside0.mk (below_step HB.out hb); (try clear hb); (try clear hb2); (try clear hk); (try clear hi)))
    go_meet
    case rel => exact ⟨_, (true), (by (rfl)), H', ⟨by (omega)⟩, ⟨HO275.out⟩, ⟨HO282.out⟩, ⟨HO288.out⟩, ⟨HO294.out⟩, ⟨BK264.out⟩, ⟨BK265.out⟩, ⟨BK266.out⟩, ⟨BK267.out⟩, ⟨HB.out⟩⟩
  case rest =>
   clear HC15
   obtain ⟨kq, x80_14, rfl, HA, HJ14, HO_265004, HO_266004, HO_267003, HO_268003, BK264, BK265, BK266, BK267, HB⟩ := hcut
   cases kq with
   | zero => exact absurd HA.out (by simp [hortatorlaw7_NoteAll.j0])
   | succ kj14 =>
    have H := HA.out
    clear HA
    simp only [hortatorlaw7_NoteAll.j0] at H
    by_cases c203 : x80_14 = true
    ·subst c203
     have H1 : (none) = some r := by rw [if_pos rfl] at H; exact H
     clear H
     have H := H1
     clear H1
     exact absurd H (by simp)
    ·replace c203 := Bool.eq_false_iff.mpr c203
     subst c203
     have H1 : (if t295.toList = ([] : List UInt8) then ((hortatorref7_Config.f kj14 t269 t270 t271 t272 t273).bind fun t305 => (some (!t305))) else ((note_GetConfig.f kj14 t295).bind fun bt306 => ((note_GetTask.f kj14 t269 t270 t271 t272 t273 t297).bind fun bt315 => (if bt306.2.2.2.2.2 = 0 then ((hortatorlaw7_sameConfig.f kj14 bt306.1 bt306.2.1 bt306.2.2.1 bt306.2.2.2.1 bt306.2.2.2.2.1 t269 t270 t271 t272 t273).bind fun t323 => (if t323 = true then ((hortatorref7_Task.f t269 t270 t271 t272 t273 t283 t284 t285 t286).bind fun t324 => (if ((bt315.2.2.2.2 == 0) == t324) = true then (if bt315.2.2.2.2 = 0 then ((rule_Same.f kj14 bt315.1 bt315.2.1 bt315.2.2.1 bt315.2.2.2.1 t283 t284 t285 t286).bind fun t325 => (some t325)) else ((rule_Same.f kj14 bt315.1 bt315.2.1 bt315.2.2.1 bt315.2.2.2.1 0 0 0 ([] : List (S43))).bind fun t326 => (if t326 = true then (some true) else (none)))) else (none))) else (none))) else (none))))) = some r := by rw [if_neg (show ¬ (false = true) by decide)] at H; exact H
     clear H
     have H := H1
     clear H1
     by_cases c204 : t295.toList = ([] : List UInt8)
     ·rw [if_pos c204] at H
      have c204b0 : (t295.toList == ([] : List UInt8)) = true := beq_iff_eq.mpr c204
      have c204b1 : (t295.toList != ([] : List UInt8)) = false := bne_eq_false_iff_eq.mpr c204
      clear c204
      replace H := Option.bind_eq_some_iff.mp H
      obtain ⟨t305, A2050, H⟩ := H
      have A205 := Aside0.mk A2050
      clear A2050
      obtain rfl := Option.some.inj H
      have hnb206 := NB264_265.out
      have hnc206 := NB265_264.out
      have hnb207 := NB264_266.out
      have hnc207 := NB266_264.out
      have hnb208 := NB264_267.out
      have hnc208 := NB267_264.out
      have hcz209_0 : wc.cell? ⟨gb264, 0, none⟩ = some (.int .i64 t269) := (blk_cell BK264.out 0).trans rfl
      have hcz209_1 : wc.cell? ⟨gb264, 1, none⟩ = some (.int .i64 t270) := (blk_cell BK264.out 1).trans rfl
      have hcz209_2 : wc.cell? ⟨gb264, 2, none⟩ = some (.int .i64 t271) := (blk_cell BK264.out 2).trans rfl
      have hcz209_3 : wc.cell? ⟨gb264, 3, none⟩ = some (.int .i64 t272) := (blk_cell BK264.out 3).trans rfl
      have hcz209_4 : wc.cell? ⟨gb264, 4, none⟩ = some (.slice Ao30 t273.length co30) := (blk_cell BK264.out 4).trans rfl
      have hfz209_0 := blk_frozen BK264.out 0
      have hfz209_1 := blk_frozen BK264.out 1
      have hfz209_2 := blk_frozen BK264.out 2
      have hfz209_3 := blk_frozen BK264.out 3
      have hfz209_4 := blk_frozen BK264.out 4
      go_wp2_with (((with_reducible refine gate_callee (f := 17) rfl ?_); refine goesL_ (some 84) rfl rfl Tryz.func17 (by kernel_rfl) rfl #[.agg #[.int .i64 t269, .int .i64 t270, .int .i64 t271, .int .i64 t272, .slice Ao30 t273.length co30]] rfl (by (try simp only [List.map_toArray, List.map_cons, List.map_nil]); (rfl)) ?_; (with_reducible refine (hortatorref7_Config.calls kj14 t269 t270 t271 t272 _ _ t273 t305 _ ?side1 ?side2 A205.out).mono ?_); (case side1 => repeat ((exact (Kd.R_reads' HO_265004.out).2.2))); (case side2 => exact (Kd.R_reads' HO_265004.out).2.1); rintro e w210 ⟨rfl, hb⟩; refine ⟨_, rfl, ?_⟩; replace HO_265004 := Aside0.mk (Kd.R_below HO_265004.out hb); replace HO_266004 := Aside0.mk (Kd.R_below HO_266004.out hb); replace HO_267003 := Aside0.mk (Kd.R_below HO_267003.out hb); replace HO_268003 := Aside0.mk (Kd.R_below HO_268003.out hb); replace BK264 := Aside0.mk (blk_below BK264.out hb); replace BK265 := Aside0.mk (blk_below BK265.out hb); replace BK266 := Aside0.mk (blk_below BK266.out hb); replace BK267 := Aside0.mk (blk_below BK267.out hb); replace HB := Aside0.mk (below_step HB.out hb); (try clear hb); (try clear hb2); (try clear hk); (try clear hi)))
      go_ret
      exact ⟨by (rfl), by repeat ((with_reducible (exact HB.out)))⟩
     ·rw [if_neg c204] at H
      have c204b0 : (t295.toList == ([] : List UInt8)) = false := beq_eq_false_iff_ne.mpr c204
      have c204b1 : (t295.toList != ([] : List UInt8)) = true := bne_iff_ne.mpr c204
      replace H := Option.bind_eq_some_iff.mp H
      obtain ⟨⟨t306, t307, t308, t309, t310, t313⟩, A2110, H⟩ := H
      have A211 := Aside0.mk A2110
      clear A2110
      replace H := Option.bind_eq_some_iff.mp H
      obtain ⟨⟨t315, t316, t317, t318, t321⟩, A2120, H⟩ := H
      have A212 := Aside0.mk A2120
      clear A2120
      by_cases c213 : t313 = 0
      ·rw [if_pos c213] at H
       have c213b0 : (t313 == 0) = true := beq_iff_eq.mpr c213
       have c213b1 : (t313 != 0) = false := bne_eq_false_iff_eq.mpr c213
       clear c213
       replace H := Option.bind_eq_some_iff.mp H
       obtain ⟨t323, A2140, H⟩ := H
       have A214 := Aside0.mk A2140
       clear A2140
       by_cases c215 : t323 = true
       ·subst c215
        have H1 : ((hortatorref7_Task.f t269 t270 t271 t272 t273 t283 t284 t285 t286).bind fun t324 => (if ((t321 == 0) == t324) = true then (if t321 = 0 then ((rule_Same.f kj14 t315 t316 t317 t318 t283 t284 t285 t286).bind fun t325 => (some t325)) else ((rule_Same.f kj14 t315 t316 t317 t318 0 0 0 ([] : List (S43))).bind fun t326 => (if t326 = true then (some true) else (none)))) else (none))) = some r := by rw [if_pos rfl] at H; exact H
        clear H
        have H := H1
        clear H1
        replace H := Option.bind_eq_some_iff.mp H
        obtain ⟨t324, A2160, H⟩ := H
        have A216 := Aside0.mk A2160
        clear A2160
        by_cases c217 : ((t321 == 0) == t324) = true
        ·rw [if_pos c217] at H
         have c217b0 : ((t321 == 0) == t324) = true := c217
         (try (have c217b1 : decide ((t321 == 0) = t324) = true := by simpa using c217))
         (try (have c217b2 : ((t321 == 0) == t324) = true := by simpa using c217))
         clear c217
         by_cases c218 : t321 = 0
         ·rw [if_pos c218] at H
          have c218b0 : (t321 == 0) = true := beq_iff_eq.mpr c218
          have c218b1 : (t321 != 0) = false := bne_eq_false_iff_eq.mpr c218
          have e324 : t324 = true := by have q1 := c217b0; rw [c218b0] at q1; simpa using q1
          subst e324
          (try clear c217b0 c217b1 c217b2)
          clear c218
          replace H := Option.bind_eq_some_iff.mp H
          obtain ⟨t325, A2190, H⟩ := H
          have A219 := Aside0.mk A2190
          clear A2190
          obtain rfl := Option.some.inj H
          go_wp2_with (first | ((with_reducible refine gate_callee (f := 33) rfl ?_); refine goesL_ (some 88) rfl rfl Tryz.func33 (by kernel_rfl) rfl #[.string t295] rfl (by (try simp only [List.map_toArray, List.map_cons, List.map_nil]); (rfl)) ?_; (with_reducible refine (note_GetConfig.calls kj14 t295 t306 t307 t308 t309 t310 t313 _ (HL.out.below HB.out) A211.out).mono ?_); rintro e w220 ⟨v311, rfl, ho0, hb⟩; refine ⟨_, rfl, ?_⟩; have HO312 := Aside0.mk (Kd.R_lower (Kd.R_new' (Kd.R_new' ho0 (Kd.R_lt HO_265004.out)) (Kd.R_lt HO_266004.out)) (below_size HB.out)); replace HO_265004 := Aside0.mk (Kd.R_elder' HO_265004.out (Kd.R_base ho0) hb); replace HO_266004 := Aside0.mk (Kd.R_elder' HO_266004.out (Kd.R_base ho0) hb); replace HO_267003 := Aside0.mk (Kd.R_below HO_267003.out hb); replace HO_268003 := Aside0.mk (Kd.R_below HO_268003.out hb); replace BK264 := Aside0.mk (blk_below BK264.out hb); replace BK265 := Aside0.mk (blk_below BK265.out hb); replace BK266 := Aside0.mk (blk_below BK266.out hb); replace BK267 := Aside0.mk (blk_below BK267.out hb); replace HB := Aside0.mk (below_step HB.out hb); (try clear hb); (try clear hb2); (try clear hk); (try clear hi); (try clear ho0)) | ((with_reducible refine gate_dst (N := 14) rfl ?_); refine box_event ?hg (N := 14) ?hd (cs := #[.int .i64 0, .int .i64 0, .int .i64 0, .int .i64 0, .slice none 0 0]) (t := 24) ?hr ?_; (case hd => rfl); (case hg => rfl); (case hr => (go_simp; done)); intro gb314 hg w221 hbox hb; have BK314 := Aside0.mk (hbox); have GW314 := Aside0.mk ((by rw [hg]; exact below_size HB.out : w.heap.size ≤ gb314)); have GE314 := Aside0.mk ((by rw [hg]; exact below_size HB.out : w.heap.size ≤ gb314)); have NB264_314 := Aside0.mk ((by rw [hg]; exact Nat.ne_of_lt (blk_lt BK264.out) : gb264 ≠ gb314)); have NB314_264 := Aside0.mk ((by rw [hg]; exact Nat.ne_of_gt (blk_lt BK264.out) : gb314 ≠ gb264)); have NB265_314 := Aside0.mk ((by rw [hg]; exact Nat.ne_of_lt (blk_lt BK265.out) : gb265 ≠ gb314)); have NB314_265 := Aside0.mk ((by rw [hg]; exact Nat.ne_of_gt (blk_lt BK265.out) : gb314 ≠ gb265)); have NB266_314 := Aside0.mk ((by rw [hg]; exact Nat.ne_of_lt (blk_lt BK266.out) : gb266 ≠ gb314)); have NB314_266 := Aside0.mk ((by rw [hg]; exact Nat.ne_of_gt (blk_lt BK266.out) : gb314 ≠ gb266)); have NB267_314 := Aside0.mk ((by rw [hg]; exact Nat.ne_of_lt (blk_lt BK267.out) : gb267 ≠ gb314)); have NB314_267 := Aside0.mk ((by rw [hg]; exact Nat.ne_of_gt (blk_lt BK267.out) : gb314 ≠ gb267)); replace HO_265004 := Aside0.mk (Kd.R_below HO_265004.out hb); replace HO_266004 := Aside0.mk (Kd.R_below HO_266004.out hb); replace HO_267003 := Aside0.mk (Kd.R_below HO_267003.out hb); replace HO_268003 := Aside0.mk (Kd.R_below HO_268003.out hb); replace HO312 := Aside0.mk (Kd.R_below HO312.out hb); replace BK264 := Aside0.mk (blk_below BK264.out hb); replace BK265 := Aside0.mk (blk_below BK265.out hb); replace BK266 := Aside0.mk (blk_below BK266.out hb); replace BK267 := Aside0.mk (blk_below BK267.out hb); replace HB := Aside0.mk (below_step HB.out hb); clear hb hbox hg; have hnb222 := NB314_264.out; have hnc222 := NB264_314.out; have hnb223 := NB314_265.out; have hnc223 := NB265_314.out; have hnb224 := NB314_266.out; have hnc224 := NB266_314.out; have hnb225 := NB314_267.out; have hnc225 := NB267_314.out; have hcz226_0 : w221.cell? ⟨gb314, 0, none⟩ = some (.int .i64 0) := (blk_cell BK314.out 0).trans rfl; have hcz226_1 : w221.cell? ⟨gb314, 1, none⟩ = some (.int .i64 0) := (blk_cell BK314.out 1).trans rfl; have hcz226_2 : w221.cell? ⟨gb314, 2, none⟩ = some (.int .i64 0) := (blk_cell BK314.out 2).trans rfl; have hcz226_3 : w221.cell? ⟨gb314, 3, none⟩ = some (.int .i64 0) := (blk_cell BK314.out 3).trans rfl; have hcz226_4 : w221.cell? ⟨gb314, 4, none⟩ = some (.slice none 0 0) := (blk_cell BK314.out 4).trans rfl; have hfz226_0 := blk_frozen BK314.out 0; have hfz226_1 := blk_frozen BK314.out 1; have hfz226_2 := blk_frozen BK314.out 2; have hfz226_3 := blk_frozen BK314.out 3; have hfz226_4 := blk_frozen BK314.out 4; obtain ⟨Ao227, co227, eo227⟩ := Kd.R_slice HO312.out; subst eo227; have hnb228 := NB264_265.out; have hnc228 := NB265_264.out; have hnb229 := NB264_266.out; have hnc229 := NB266_264.out; have hnb230 := NB264_267.out; have hnc230 := NB267_264.out; have hcz231_0 : w221.cell? ⟨gb264, 0, none⟩ = some (.int .i64 t269) := (blk_cell BK264.out 0).trans rfl; have hcz231_1 : w221.cell? ⟨gb264, 1, none⟩ = some (.int .i64 t270) := (blk_cell BK264.out 1).trans rfl; have hcz231_2 : w221.cell? ⟨gb264, 2, none⟩ = some (.int .i64 t271) := (blk_cell BK264.out 2).trans rfl; have hcz231_3 : w221.cell? ⟨gb264, 3, none⟩ = some (.int .i64 t272) := (blk_cell BK264.out 3).trans rfl; have hcz231_4 : w221.cell? ⟨gb264, 4, none⟩ = some (.slice Ao30 t273.length co30) := (blk_cell BK264.out 4).trans rfl; have hfz231_0 := blk_frozen BK264.out 0; have hfz231_1 := blk_frozen BK264.out 1; have hfz231_2 := blk_frozen BK264.out 2; have hfz231_3 := blk_frozen BK264.out 3; have hfz231_4 := blk_frozen BK264.out 4) | ((with_reducible refine gate_callee (f := 34) rfl ?_); refine goesL_ (some 94) rfl rfl Tryz.func34 (by kernel_rfl) rfl #[.agg #[.int .i64 t269, .int .i64 t270, .int .i64 t271, .int .i64 t272, .slice Ao30 t273.length co30], .string t297] rfl (by (try simp only [List.map_toArray, List.map_cons, List.map_nil]); (rfl)) ?_; (with_reducible refine (note_GetTask.calls kj14 t269 t270 t271 t272 _ _ t273 t297 t315 t316 t317 t318 t321 _ ?side1 ?side2 (HL.out.below (by repeat ((with_reducible first | exact HB.out | refine below_set ?_ GE314.out)))) A212.out).mono ?_); (case side1 => refine (Kd.R_reads' (e := 3) (base := w.heap.size) (ok := fun k_ => (some k_ ≠ (.slice Ao36 t280.length co36 : Value).ownBlock ∧ some k_ ≠ (.slice Ao227 t310.length co227 : Value).ownBlock)) (n := t273.length) (c := co30) ?_).2.2; exact (by exact (Kd.R_mono (Kd.R_far (p := ⟨gb314, 4, none⟩) (Kd.R_far (p := ⟨gb314, 3, none⟩) (Kd.R_far (p := ⟨gb314, 2, none⟩) (Kd.R_far (p := ⟨gb314, 1, none⟩) (Kd.R_far (p := ⟨gb314, 0, none⟩) (Kd.R_types HO_265004.out BK314.out (by decide)) (fun _ hk => hk.2) (.int .i64 t306)) (fun _ hk => hk.2) (.int .i64 t307)) (fun _ hk => hk.2) (.int .i64 t308)) (fun _ hk => hk.2) (.int .i64 t309)) (fun _ hk => hk.2) (.slice Ao227 t310.length co227)) (fun _ h_ => h_.1)))); (case side2 => exact (Kd.R_reads' HO_265004.out).2.1); rintro e w232 ⟨v319, rfl, ho0, hb⟩; refine ⟨_, rfl, ?_⟩; have HO320 := Aside0.mk (Kd.R_lower (Kd.R_new' (Kd.R_new' ho0 (Kd.R_lt (by exact (Kd.R_mono (Kd.R_far (p := ⟨gb314, 4, none⟩) (Kd.R_far (p := ⟨gb314, 3, none⟩) (Kd.R_far (p := ⟨gb314, 2, none⟩) (Kd.R_far (p := ⟨gb314, 1, none⟩) (Kd.R_far (p := ⟨gb314, 0, none⟩) (Kd.R_types HO_267003.out BK314.out (by decide)) (fun _ hk => hk.2) (.int .i64 t306)) (fun _ hk => hk.2) (.int .i64 t307)) (fun _ hk => hk.2) (.int .i64 t308)) (fun _ hk => hk.2) (.int .i64 t309)) (fun _ hk => hk.2) (.slice Ao227 t310.length co227)) (fun _ h_ => h_.1))))) (Kd.R_lt (by exact (Kd.R_mono (Kd.R_far (p := ⟨gb314, 4, none⟩) (Kd.R_far (p := ⟨gb314, 3, none⟩) (Kd.R_far (p := ⟨gb314, 2, none⟩) (Kd.R_far (p := ⟨gb314, 1, none⟩) (Kd.R_far (p := ⟨gb314, 0, none⟩) (Kd.R_types HO_268003.out BK314.out (by decide)) (fun _ hk => hk.2) (.int .i64 t306)) (fun _ hk => hk.2) (.int .i64 t307)) (fun _ hk => hk.2) (.int .i64 t308)) (fun _ hk => hk.2) (.int .i64 t309)) (fun _ hk => hk.2) (.slice Ao227 t310.length co227)) (fun _ h_ => h_.1))))) (below_size (by repeat ((with_reducible first | exact HB.out | refine below_set ?_ GE314.out))))); replace HO_265004 := Aside0.mk (Kd.R_below (by exact (Kd.R_mono (Kd.R_far (p := ⟨gb314, 4, none⟩) (Kd.R_far (p := ⟨gb314, 3, none⟩) (Kd.R_far (p := ⟨gb314, 2, none⟩) (Kd.R_far (p := ⟨gb314, 1, none⟩) (Kd.R_far (p := ⟨gb314, 0, none⟩) (Kd.R_types HO_265004.out BK314.out (by decide)) (fun _ hk => hk.2) (.int .i64 t306)) (fun _ hk => hk.2) (.int .i64 t307)) (fun _ hk => hk.2) (.int .i64 t308)) (fun _ hk => hk.2) (.int .i64 t309)) (fun _ hk => hk.2) (.slice Ao227 t310.length co227)) (fun _ h_ => h_.1))) hb); replace HO_266004 := Aside0.mk (Kd.R_below (by exact (Kd.R_mono (Kd.R_far (p := ⟨gb314, 4, none⟩) (Kd.R_far (p := ⟨gb314, 3, none⟩) (Kd.R_far (p := ⟨gb314, 2, none⟩) (Kd.R_far (p := ⟨gb314, 1, none⟩) (Kd.R_far (p := ⟨gb314, 0, none⟩) (Kd.R_types HO_266004.out BK314.out (by decide)) (fun _ hk => hk.2) (.int .i64 t306)) (fun _ hk => hk.2) (.int .i64 t307)) (fun _ hk => hk.2) (.int .i64 t308)) (fun _ hk => hk.2) (.int .i64 t309)) (fun _ hk => hk.2) (.slice Ao227 t310.length co227)) (fun _ h_ => h_.1))) hb); replace HO_267003 := Aside0.mk (Kd.R_elder' (by exact (Kd.R_mono (Kd.R_far (p := ⟨gb314, 4, none⟩) (Kd.R_far (p := ⟨gb314, 3, none⟩) (Kd.R_far (p := ⟨gb314, 2, none⟩) (Kd.R_far (p := ⟨gb314, 1, none⟩) (Kd.R_far (p := ⟨gb314, 0, none⟩) (Kd.R_types HO_267003.out BK314.out (by decide)) (fun _ hk => hk.2) (.int .i64 t306)) (fun _ hk => hk.2) (.int .i64 t307)) (fun _ hk => hk.2) (.int .i64 t308)) (fun _ hk => hk.2) (.int .i64 t309)) (fun _ hk => hk.2) (.slice Ao227 t310.length co227)) (fun _ h_ => h_.1))) (Kd.R_base ho0) hb); replace HO_268003 := Aside0.mk (Kd.R_elder' (by exact (Kd.R_mono (Kd.R_far (p := ⟨gb314, 4, none⟩) (Kd.R_far (p := ⟨gb314, 3, none⟩) (Kd.R_far (p := ⟨gb314, 2, none⟩) (Kd.R_far (p := ⟨gb314, 1, none⟩) (Kd.R_far (p := ⟨gb314, 0, none⟩) (Kd.R_types HO_268003.out BK314.out (by decide)) (fun _ hk => hk.2) (.int .i64 t306)) (fun _ hk => hk.2) (.int .i64 t307)) (fun _ hk => hk.2) (.int .i64 t308)) (fun _ hk => hk.2) (.int .i64 t309)) (fun _ hk => hk.2) (.slice Ao227 t310.length co227)) (fun _ h_ => h_.1))) (Kd.R_base ho0) hb); replace HO312 := Aside0.mk (Kd.R_below (by exact (Kd.R_mono (Kd.R_far (p := ⟨gb314, 4, none⟩) (Kd.R_far (p := ⟨gb314, 3, none⟩) (Kd.R_far (p := ⟨gb314, 2, none⟩) (Kd.R_far (p := ⟨gb314, 1, none⟩) (Kd.R_far (p := ⟨gb314, 0, none⟩) (Kd.R_types HO312.out BK314.out (by decide)) (fun _ hk => hk.2) (.int .i64 t306)) (fun _ hk => hk.2) (.int .i64 t307)) (fun _ hk => hk.2) (.int .i64 t308)) (fun _ hk => hk.2) (.int .i64 t309)) (fun _ hk => hk.2) (.slice Ao227 t310.length co227)) (fun _ h_ => h_.1))) hb); replace BK264 := Aside0.mk (blk_below (g := gb264) (o := .cells #[.int .i64 t269, .int .i64 t270, .int .i64 t271, .int .i64 t272, .slice Ao30 t273.length co30] 24 (0, 0)) (by refine blk_far ?_ NB264_314.out _; refine blk_far ?_ NB264_314.out _; refine blk_far ?_ NB264_314.out _; refine blk_far ?_ NB264_314.out _; refine blk_far ?_ NB264_314.out _; exact BK264.out) hb); replace BK265 := Aside0.mk (blk_below (g := gb265) (o := .cells #[.int .i64 t276, .int .i64 t277, .int .i64 t278, .int .i64 t279, .slice Ao36 t280.length co36] 24 (0, 0)) (by refine blk_far ?_ NB265_314.out _; refine blk_far ?_ NB265_314.out _; refine blk_far ?_ NB265_314.out _; refine blk_far ?_ NB265_314.out _; refine blk_far ?_ NB265_314.out _; exact BK265.out) hb); replace BK266 := Aside0.mk (blk_below (g := gb266) (o := .cells #[.int .i64 t283, .int .i64 t284, .int .i64 t285, .slice Ao41 t286.length co41] 27 (0, 0)) (by refine blk_far ?_ NB266_314.out _; refine blk_far ?_ NB266_314.out _; refine blk_far ?_ NB266_314.out _; refine blk_far ?_ NB266_314.out _; refine blk_far ?_ NB266_314.out _; exact BK266.out) hb); replace BK267 := Aside0.mk (blk_below (g := gb267) (o := .cells #[.int .i64 t289, .int .i64 t290, .int .i64 t291, .slice Ao46 t292.length co46] 27 (0, 0)) (by refine blk_far ?_ NB267_314.out _; refine blk_far ?_ NB267_314.out _; refine blk_far ?_ NB267_314.out _; refine blk_far ?_ NB267_314.out _; refine blk_far ?_ NB267_314.out _; exact BK267.out) hb); replace BK314 := Aside0.mk (blk_below (g := gb314) (o := .cells #[.int .i64 t306, .int .i64 t307, .int .i64 t308, .int .i64 t309, .slice Ao227 t310.length co227] 24 (0, 0)) (by refine blk_put (cs := #[.int .i64 t306, .int .i64 t307, .int .i64 t308, .int .i64 t309, .slice none 0 0]) ?_ 4 _ rfl; refine blk_put (cs := #[.int .i64 t306, .int .i64 t307, .int .i64 t308, .int .i64 0, .slice none 0 0]) ?_ 3 _ rfl; refine blk_put (cs := #[.int .i64 t306, .int .i64 t307, .int .i64 0, .int .i64 0, .slice none 0 0]) ?_ 2 _ rfl; refine blk_put (cs := #[.int .i64 t306, .int .i64 0, .int .i64 0, .int .i64 0, .slice none 0 0]) ?_ 1 _ rfl; refine blk_put (cs := #[.int .i64 0, .int .i64 0, .int .i64 0, .int .i64 0, .slice none 0 0]) ?_ 0 _ rfl; exact BK314.out) hb); replace HB := Aside0.mk (below_step (by repeat ((with_reducible first | exact HB.out | refine below_set ?_ GE314.out))) hb); (try clear hb); (try clear hb2); (try clear hk); (try clear hi); (try clear ho0)) | ((with_reducible refine gate_dst (N := 16) rfl ?_); refine box_event ?hg (N := 16) ?hd (cs := #[.int .i64 0, .int .i64 0, .int .i64 0, .slice none 0 0]) (t := 27) ?hr ?_; (case hd => rfl); (case hg => rfl); (case hr => (go_simp; done)); intro gb322 hg w233 hbox hb; have BK322 := Aside0.mk (hbox); have GW322 := Aside0.mk ((by rw [hg]; exact below_size HB.out : w.heap.size ≤ gb322)); have GE322 := Aside0.mk ((by rw [hg]; exact below_size HB.out : w.heap.size ≤ gb322)); have NB264_322 := Aside0.mk ((by rw [hg]; exact Nat.ne_of_lt (blk_lt BK264.out) : gb264 ≠ gb322)); have NB322_264 := Aside0.mk ((by rw [hg]; exact Nat.ne_of_gt (blk_lt BK264.out) : gb322 ≠ gb264)); have NB265_322 := Aside0.mk ((by rw [hg]; exact Nat.ne_of_lt (blk_lt BK265.out) : gb265 ≠ gb322)); have NB322_265 := Aside0.mk ((by rw [hg]; exact Nat.ne_of_gt (blk_lt BK265.out) : gb322 ≠ gb265)); have NB266_322 := Aside0.mk ((by rw [hg]; exact Nat.ne_of_lt (blk_lt BK266.out) : gb266 ≠ gb322)); have NB322_266 := Aside0.mk ((by rw [hg]; exact Nat.ne_of_gt (blk_lt BK266.out) : gb322 ≠ gb266)); have NB267_322 := Aside0.mk ((by rw [hg]; exact Nat.ne_of_lt (blk_lt BK267.out) : gb267 ≠ gb322)); have NB322_267 := Aside0.mk ((by rw [hg]; exact Nat.ne_of_gt (blk_lt BK267.out) : gb322 ≠ gb267)); have NB314_322 := Aside0.mk ((by rw [hg]; exact Nat.ne_of_lt (blk_lt BK314.out) : gb314 ≠ gb322)); have NB322_314 := Aside0.mk ((by rw [hg]; exact Nat.ne_of_gt (blk_lt BK314.out) : gb322 ≠ gb314)); replace HO_265004 := Aside0.mk (Kd.R_below HO_265004.out hb); replace HO_266004 := Aside0.mk (Kd.R_below HO_266004.out hb); replace HO_267003 := Aside0.mk (Kd.R_below HO_267003.out hb); replace HO_268003 := Aside0.mk (Kd.R_below HO_268003.out hb); replace HO312 := Aside0.mk (Kd.R_below HO312.out hb); replace HO320 := Aside0.mk (Kd.R_below HO320.out hb); replace BK264 := Aside0.mk (blk_below BK264.out hb); replace BK265 := Aside0.mk (blk_below BK265.out hb); replace BK266 := Aside0.mk (blk_below BK266.out hb); replace BK267 := Aside0.mk (blk_below BK267.out hb); replace BK314 := Aside0.mk (blk_below BK314.out hb); replace HB := Aside0.mk (below_step HB.out hb); clear hb hbox hg; have hnb234 := NB322_264.out; have hnc234 := NB264_322.out; have hnb235 := NB322_265.out; have hnc235 := NB265_322.out; have hnb236 := NB322_266.out; have hnc236 := NB266_322.out; have hnb237 := NB322_267.out; have hnc237 := NB267_322.out; have hnb238 := NB322_314.out; have hnc238 := NB314_322.out; have hcz239_0 : w233.cell? ⟨gb322, 0, none⟩ = some (.int .i64 0) := (blk_cell BK322.out 0).trans rfl; have hcz239_1 : w233.cell? ⟨gb322, 1, none⟩ = some (.int .i64 0) := (blk_cell BK322.out 1).trans rfl; have hcz239_2 : w233.cell? ⟨gb322, 2, none⟩ = some (.int .i64 0) := (blk_cell BK322.out 2).trans rfl; have hcz239_3 : w233.cell? ⟨gb322, 3, none⟩ = some (.slice none 0 0) := (blk_cell BK322.out 3).trans rfl; have hfz239_0 := blk_frozen BK322.out 0; have hfz239_1 := blk_frozen BK322.out 1; have hfz239_2 := blk_frozen BK322.out 2; have hfz239_3 := blk_frozen BK322.out 3; obtain ⟨Ao240, co240, eo240⟩ := Kd.R_slice HO320.out; subst eo240; have hcz241_0 : w233.cell? ⟨gb314, 0, none⟩ = some (.int .i64 t306) := (blk_cell BK314.out 0).trans rfl; have hcz241_1 : w233.cell? ⟨gb314, 1, none⟩ = some (.int .i64 t307) := (blk_cell BK314.out 1).trans rfl; have hcz241_2 : w233.cell? ⟨gb314, 2, none⟩ = some (.int .i64 t308) := (blk_cell BK314.out 2).trans rfl; have hcz241_3 : w233.cell? ⟨gb314, 3, none⟩ = some (.int .i64 t309) := (blk_cell BK314.out 3).trans rfl; have hcz241_4 : w233.cell? ⟨gb314, 4, none⟩ = some (.slice Ao227 t310.length co227) := (blk_cell BK314.out 4).trans rfl; have hfz241_0 := blk_frozen BK314.out 0; have hfz241_1 := blk_frozen BK314.out 1; have hfz241_2 := blk_frozen BK314.out 2; have hfz241_3 := blk_frozen BK314.out 3; have hfz241_4 := blk_frozen BK314.out 4; have hcz242_0 : w233.cell? ⟨gb264, 0, none⟩ = some (.int .i64 t269) := (blk_cell BK264.out 0).trans rfl; have hcz242_1 : w233.cell? ⟨gb264, 1, none⟩ = some (.int .i64 t270) := (blk_cell BK264.out 1).trans rfl; have hcz242_2 : w233.cell? ⟨gb264, 2, none⟩ = some (.int .i64 t271) := (blk_cell BK264.out 2).trans rfl; have hcz242_3 : w233.cell? ⟨gb264, 3, none⟩ = some (.int .i64 t272) := (blk_cell BK264.out 3).trans rfl; have hcz242_4 : w233.cell? ⟨gb264, 4, none⟩ = some (.slice Ao30 t273.length co30) := (blk_cell BK264.out 4).trans rfl; have hfz242_0 := blk_frozen BK264.out 0; have hfz242_1 := blk_frozen BK264.out 1; have hfz242_2 := blk_frozen BK264.out 2; have hfz242_3 := blk_frozen BK264.out 3; have hfz242_4 := blk_frozen BK264.out 4) | (go_at_call 32; (with_reducible refine (hortatorlaw7_sameConfig.calls kj14 t306 t307 t308 t309 _ _ t310 t269 t270 t271 t272 _ _ t273 true _ ?side1 ?side2 ?side3 ?side4 A214.out).mono ?_); (case side1 => refine (Kd.R_reads' (e := 3) (base := w.heap.size) (ok := fun k_ => ((True ∧ some k_ ≠ (.slice Ao30 t273.length co30 : Value).ownBlock) ∧ some k_ ≠ (.slice Ao36 t280.length co36 : Value).ownBlock)) (n := t310.length) (c := co227) ?_).2.2; exact (by exact (Kd.R_mono (Kd.R_far (p := ⟨gb322, 3, none⟩) (Kd.R_far (p := ⟨gb322, 2, none⟩) (Kd.R_far (p := ⟨gb322, 1, none⟩) (Kd.R_far (p := ⟨gb322, 0, none⟩) (Kd.R_types HO312.out BK322.out (by decide)) (fun _ hk => hk.2) (.int .i64 t315)) (fun _ hk => hk.2) (.int .i64 t316)) (fun _ hk => hk.2) (.int .i64 t317)) (fun _ hk => hk.2) (.slice Ao240 t318.length co240)) (fun _ h_ => h_.1)))); (case side2 => exact (Kd.R_reads' HO312.out).2.1); (case side3 => refine (Kd.R_reads' (e := 3) (base := w.heap.size) (ok := fun k_ => (some k_ ≠ (.slice Ao36 t280.length co36 : Value).ownBlock ∧ some k_ ≠ (.slice Ao227 t310.length co227 : Value).ownBlock)) (n := t273.length) (c := co30) ?_).2.2; exact (by exact (Kd.R_mono (Kd.R_far (p := ⟨gb322, 3, none⟩) (Kd.R_far (p := ⟨gb322, 2, none⟩) (Kd.R_far (p := ⟨gb322, 1, none⟩) (Kd.R_far (p := ⟨gb322, 0, none⟩) (Kd.R_types HO_265004.out BK322.out (by decide)) (fun _ hk => hk.2) (.int .i64 t315)) (fun _ hk => hk.2) (.int .i64 t316)) (fun _ hk => hk.2) (.int .i64 t317)) (fun _ hk => hk.2) (.slice Ao240 t318.length co240)) (fun _ h_ => h_.1)))); (case side4 => exact (Kd.R_reads' HO_265004.out).2.1); rintro e w243 ⟨rfl, hb⟩; replace HO_265004 := Aside0.mk (Kd.R_below (by exact (Kd.R_mono (Kd.R_far (p := ⟨gb322, 3, none⟩) (Kd.R_far (p := ⟨gb322, 2, none⟩) (Kd.R_far (p := ⟨gb322, 1, none⟩) (Kd.R_far (p := ⟨gb322, 0, none⟩) (Kd.R_types HO_265004.out BK322.out (by decide)) (fun _ hk => hk.2) (.int .i64 t315)) (fun _ hk => hk.2) (.int .i64 t316)) (fun _ hk => hk.2) (.int .i64 t317)) (fun _ hk => hk.2) (.slice Ao240 t318.length co240)) (fun _ h_ => h_.1))) hb); replace HO_266004 := Aside0.mk (Kd.R_below (by exact (Kd.R_mono (Kd.R_far (p := ⟨gb322, 3, none⟩) (Kd.R_far (p := ⟨gb322, 2, none⟩) (Kd.R_far (p := ⟨gb322, 1, none⟩) (Kd.R_far (p := ⟨gb322, 0, none⟩) (Kd.R_types HO_266004.out BK322.out (by decide)) (fun _ hk => hk.2) (.int .i64 t315)) (fun _ hk => hk.2) (.int .i64 t316)) (fun _ hk => hk.2) (.int .i64 t317)) (fun _ hk => hk.2) (.slice Ao240 t318.length co240)) (fun _ h_ => h_.1))) hb); replace HO_267003 := Aside0.mk (Kd.R_below (by exact (Kd.R_mono (Kd.R_far (p := ⟨gb322, 3, none⟩) (Kd.R_far (p := ⟨gb322, 2, none⟩) (Kd.R_far (p := ⟨gb322, 1, none⟩) (Kd.R_far (p := ⟨gb322, 0, none⟩) (Kd.R_types HO_267003.out BK322.out (by decide)) (fun _ hk => hk.2) (.int .i64 t315)) (fun _ hk => hk.2) (.int .i64 t316)) (fun _ hk => hk.2) (.int .i64 t317)) (fun _ hk => hk.2) (.slice Ao240 t318.length co240)) (fun _ h_ => h_.1))) hb); replace HO_268003 := Aside0.mk (Kd.R_below (by exact (Kd.R_mono (Kd.R_far (p := ⟨gb322, 3, none⟩) (Kd.R_far (p := ⟨gb322, 2, none⟩) (Kd.R_far (p := ⟨gb322, 1, none⟩) (Kd.R_far (p := ⟨gb322, 0, none⟩) (Kd.R_types HO_268003.out BK322.out (by decide)) (fun _ hk => hk.2) (.int .i64 t315)) (fun _ hk => hk.2) (.int .i64 t316)) (fun _ hk => hk.2) (.int .i64 t317)) (fun _ hk => hk.2) (.slice Ao240 t318.length co240)) (fun _ h_ => h_.1))) hb); replace HO312 := Aside0.mk (Kd.R_below (by exact (Kd.R_mono (Kd.R_far (p := ⟨gb322, 3, none⟩) (Kd.R_far (p := ⟨gb322, 2, none⟩) (Kd.R_far (p := ⟨gb322, 1, none⟩) (Kd.R_far (p := ⟨gb322, 0, none⟩) (Kd.R_types HO312.out BK322.out (by decide)) (fun _ hk => hk.2) (.int .i64 t315)) (fun _ hk => hk.2) (.int .i64 t316)) (fun _ hk => hk.2) (.int .i64 t317)) (fun _ hk => hk.2) (.slice Ao240 t318.length co240)) (fun _ h_ => h_.1))) hb); replace HO320 := Aside0.mk (Kd.R_below (by exact (Kd.R_mono (Kd.R_far (p := ⟨gb322, 3, none⟩) (Kd.R_far (p := ⟨gb322, 2, none⟩) (Kd.R_far (p := ⟨gb322, 1, none⟩) (Kd.R_far (p := ⟨gb322, 0, none⟩) (Kd.R_types HO320.out BK322.out (by decide)) (fun _ hk => hk.2) (.int .i64 t315)) (fun _ hk => hk.2) (.int .i64 t316)) (fun _ hk => hk.2) (.int .i64 t317)) (fun _ hk => hk.2) (.slice Ao240 t318.length co240)) (fun _ h_ => h_.1))) hb); replace BK264 := Aside0.mk (blk_below (g := gb264) (o := .cells #[.int .i64 t269, .int .i64 t270, .int .i64 t271, .int .i64 t272, .slice Ao30 t273.length co30] 24 (0, 0)) (by refine blk_far ?_ NB264_322.out _; refine blk_far ?_ NB264_322.out _; refine blk_far ?_ NB264_322.out _; refine blk_far ?_ NB264_322.out _; exact BK264.out) hb); replace BK265 := Aside0.mk (blk_below (g := gb265) (o := .cells #[.int .i64 t276, .int .i64 t277, .int .i64 t278, .int .i64 t279, .slice Ao36 t280.length co36] 24 (0, 0)) (by refine blk_far ?_ NB265_322.out _; refine blk_far ?_ NB265_322.out _; refine blk_far ?_ NB265_322.out _; refine blk_far ?_ NB265_322.out _; exact BK265.out) hb); replace BK266 := Aside0.mk (blk_below (g := gb266) (o := .cells #[.int .i64 t283, .int .i64 t284, .int .i64 t285, .slice Ao41 t286.length co41] 27 (0, 0)) (by refine blk_far ?_ NB266_322.out _; refine blk_far ?_ NB266_322.out _; refine blk_far ?_ NB266_322.out _; refine blk_far ?_ NB266_322.out _; exact BK266.out) hb); replace BK267 := Aside0.mk (blk_below (g := gb267) (o := .cells #[.int .i64 t289, .int .i64 t290, .int .i64 t291, .slice Ao46 t292.length co46] 27 (0, 0)) (by refine blk_far ?_ NB267_322.out _; refine blk_far ?_ NB267_322.out _; refine blk_far ?_ NB267_322.out _; refine blk_far ?_ NB267_322.out _; exact BK267.out) hb); replace BK314 := Aside0.mk (blk_below (g := gb314) (o := .cells #[.int .i64 t306, .int .i64 t307, .int .i64 t308, .int .i64 t309, .slice Ao227 t310.length co227] 24 (0, 0)) (by refine blk_far ?_ NB314_322.out _; refine blk_far ?_ NB314_322.out _; refine blk_far ?_ NB314_322.out _; refine blk_far ?_ NB314_322.out _; exact BK314.out) hb); replace BK322 := Aside0.mk (blk_below (g := gb322) (o := .cells #[.int .i64 t315, .int .i64 t316, .int .i64 t317, .slice Ao240 t318.length co240] 27 (0, 0)) (by refine blk_put (cs := #[.int .i64 t315, .int .i64 t316, .int .i64 t317, .slice none 0 0]) ?_ 3 _ rfl; refine blk_put (cs := #[.int .i64 t315, .int .i64 t316, .int .i64 0, .slice none 0 0]) ?_ 2 _ rfl; refine blk_put (cs := #[.int .i64 t315, .int .i64 0, .int .i64 0, .slice none 0 0]) ?_ 1 _ rfl; refine blk_put (cs := #[.int .i64 0, .int .i64 0, .int .i64 0, .slice none 0 0]) ?_ 0 _ rfl; exact BK322.out) hb); replace HB := Aside0.mk (below_step (by repeat ((with_reducible first | exact HB.out | refine below_set ?_ GE322.out))) hb); (try clear hb); (try clear hb2); (try clear hk); (try clear hi); have hcz244_0 : w243.cell? ⟨gb264, 0, none⟩ = some (.int .i64 t269) := (blk_cell BK264.out 0).trans rfl; have hcz244_1 : w243.cell? ⟨gb264, 1, none⟩ = some (.int .i64 t270) := (blk_cell BK264.out 1).trans rfl; have hcz244_2 : w243.cell? ⟨gb264, 2, none⟩ = some (.int .i64 t271) := (blk_cell BK264.out 2).trans rfl; have hcz244_3 : w243.cell? ⟨gb264, 3, none⟩ = some (.int .i64 t272) := (blk_cell BK264.out 3).trans rfl; have hcz244_4 : w243.cell? ⟨gb264, 4, none⟩ = some (.slice Ao30 t273.length co30) := (blk_cell BK264.out 4).trans rfl; have hfz244_0 := blk_frozen BK264.out 0; have hfz244_1 := blk_frozen BK264.out 1; have hfz244_2 := blk_frozen BK264.out 2; have hfz244_3 := blk_frozen BK264.out 3; have hfz244_4 := blk_frozen BK264.out 4; have hnb245 := NB266_265.out; have hnc245 := NB265_266.out; have hnb246 := NB266_267.out; have hnc246 := NB267_266.out; have hcz247_0 : w243.cell? ⟨gb266, 0, none⟩ = some (.int .i64 t283) := (blk_cell BK266.out 0).trans rfl; have hcz247_1 : w243.cell? ⟨gb266, 1, none⟩ = some (.int .i64 t284) := (blk_cell BK266.out 1).trans rfl; have hcz247_2 : w243.cell? ⟨gb266, 2, none⟩ = some (.int .i64 t285) := (blk_cell BK266.out 2).trans rfl; have hcz247_3 : w243.cell? ⟨gb266, 3, none⟩ = some (.slice Ao41 t286.length co41) := (blk_cell BK266.out 3).trans rfl; have hfz247_0 := blk_frozen BK266.out 0; have hfz247_1 := blk_frozen BK266.out 1; have hfz247_2 := blk_frozen BK266.out 2; have hfz247_3 := blk_frozen BK266.out 3) | (go_at_call 23; (with_reducible refine (hortatorref7_Task.calls t269 t270 t271 t272 _ _ t273 t283 t284 t285 _ _ t286 true _ ?side1 ?side2 ?side3 ?side4 A216.out).mono ?_); (case side1 => repeat ((exact (Kd.R_reads' HO_265004.out).2.2))); (case side2 => exact (Kd.R_reads' HO_265004.out).2.1); (case side3 => repeat ((exact (Kd.R_reads' HO_267003.out).2.2))); (case side4 => exact (Kd.R_reads' HO_267003.out).2.1); rintro e w248 ⟨rfl, hb⟩; replace HO_265004 := Aside0.mk (Kd.R_below HO_265004.out hb); replace HO_266004 := Aside0.mk (Kd.R_below HO_266004.out hb); replace HO_267003 := Aside0.mk (Kd.R_below HO_267003.out hb); replace HO_268003 := Aside0.mk (Kd.R_below HO_268003.out hb); replace HO312 := Aside0.mk (Kd.R_below HO312.out hb); replace HO320 := Aside0.mk (Kd.R_below HO320.out hb); replace BK264 := Aside0.mk (blk_below BK264.out hb); replace BK265 := Aside0.mk (blk_below BK265.out hb); replace BK266 := Aside0.mk (blk_below BK266.out hb); replace BK267 := Aside0.mk (blk_below BK267.out hb); replace BK314 := Aside0.mk (blk_below BK314.out hb); replace BK322 := Aside0.mk (blk_below BK322.out hb); replace HB := Aside0.mk (below_step HB.out hb); (try clear hb); (try clear hb2); (try clear hk); (try clear hi); have hcz249_0 : w248.cell? ⟨gb322, 0, none⟩ = some (.int .i64 t315) := (blk_cell BK322.out 0).trans rfl; have hcz249_1 : w248.cell? ⟨gb322, 1, none⟩ = some (.int .i64 t316) := (blk_cell BK322.out 1).trans rfl; have hcz249_2 : w248.cell? ⟨gb322, 2, none⟩ = some (.int .i64 t317) := (blk_cell BK322.out 2).trans rfl; have hcz249_3 : w248.cell? ⟨gb322, 3, none⟩ = some (.slice Ao240 t318.length co240) := (blk_cell BK322.out 3).trans rfl; have hfz249_0 := blk_frozen BK322.out 0; have hfz249_1 := blk_frozen BK322.out 1; have hfz249_2 := blk_frozen BK322.out 2; have hfz249_3 := blk_frozen BK322.out 3; have hcz250_0 : w248.cell? ⟨gb266, 0, none⟩ = some (.int .i64 t283) := (blk_cell BK266.out 0).trans rfl; have hcz250_1 : w248.cell? ⟨gb266, 1, none⟩ = some (.int .i64 t284) := (blk_cell BK266.out 1).trans rfl; have hcz250_2 : w248.cell? ⟨gb266, 2, none⟩ = some (.int .i64 t285) := (blk_cell BK266.out 2).trans rfl; have hcz250_3 : w248.cell? ⟨gb266, 3, none⟩ = some (.slice Ao41 t286.length co41) := (blk_cell BK266.out 3).trans rfl; have hfz250_0 := blk_frozen BK266.out 0; have hfz250_1 := blk_frozen BK266.out 1; have hfz250_2 := blk_frozen BK266.out 2; have hfz250_3 := blk_frozen BK266.out 3) | (go_at_call 18; (with_reducible refine (rule_Same.calls kj14 t315 t316 t317 _ _ t318 t283 t284 t285 _ _ t286 t325 _ ?side1 ?side2 ?side3 ?side4 A219.out).mono ?_); (case side1 => repeat ((exact (Kd.R_reads' HO320.out).2.2))); (case side2 => exact (Kd.R_reads' HO320.out).2.1); (case side3 => repeat ((exact (Kd.R_reads' HO_267003.out).2.2))); (case side4 => exact (Kd.R_reads' HO_267003.out).2.1); rintro e w251 ⟨rfl, hb⟩; replace HO_265004 := Aside0.mk (Kd.R_below HO_265004.out hb); replace HO_266004 := Aside0.mk (Kd.R_below HO_266004.out hb); replace HO_267003 := Aside0.mk (Kd.R_below HO_267003.out hb); replace HO_268003 := Aside0.mk (Kd.R_below HO_268003.out hb); replace HO312 := Aside0.mk (Kd.R_below HO312.out hb); replace HO320 := Aside0.mk (Kd.R_below HO320.out hb); replace BK264 := Aside0.mk (blk_below BK264.out hb); replace BK265 := Aside0.mk (blk_below BK265.out hb); replace BK266 := Aside0.mk (blk_below BK266.out hb); replace BK267 := Aside0.mk (blk_below BK267.out hb); replace BK314 := Aside0.mk (blk_below BK314.out hb); replace BK322 := Aside0.mk (blk_below BK322.out hb); replace HB := Aside0.mk (below_step HB.out hb); (try clear hb); (try clear hb2); (try clear hk); (try clear hi)))
          go_ret
          exact ⟨by (rfl), by repeat ((with_reducible (exact HB.out)))⟩
         ·rw [if_neg c218] at H
          have c218b0 : (t321 == 0) = false := beq_eq_false_iff_ne.mpr c218
          have c218b1 : (t321 != 0) = true := bne_iff_ne.mpr c218
          have e324 : t324 = false := by have q1 := c217b0; rw [c218b0] at q1; simpa using q1
          subst e324
          (try clear c217b0 c217b1 c217b2)
          replace H := Option.bind_eq_some_iff.mp H
          obtain ⟨t326, A2520, H⟩ := H
          have A252 := Aside0.mk A2520
          clear A2520
          by_cases c253 : t326 = true
          ·subst c253
           have H1 : (some true) = some r := by rw [if_pos rfl] at H; exact H
           clear H
           have H := H1
           clear H1
           obtain rfl := Option.some.inj H
           go_wp2_with (first | ((with_reducible refine gate_callee (f := 33) rfl ?_); refine goesL_ (some 88) rfl rfl Tryz.func33 (by kernel_rfl) rfl #[.string t295] rfl (by (try simp only [List.map_toArray, List.map_cons, List.map_nil]); (rfl)) ?_; (with_reducible refine (note_GetConfig.calls kj14 t295 t306 t307 t308 t309 t310 t313 _ (HL.out.below HB.out) A211.out).mono ?_); rintro e w254 ⟨v311, rfl, ho0, hb⟩; refine ⟨_, rfl, ?_⟩; have HO312 := Aside0.mk (Kd.R_lower (Kd.R_new' (Kd.R_new' ho0 (Kd.R_lt HO_265004.out)) (Kd.R_lt HO_266004.out)) (below_size HB.out)); replace HO_265004 := Aside0.mk (Kd.R_elder' HO_265004.out (Kd.R_base ho0) hb); replace HO_266004 := Aside0.mk (Kd.R_elder' HO_266004.out (Kd.R_base ho0) hb); replace HO_267003 := Aside0.mk (Kd.R_below HO_267003.out hb); replace HO_268003 := Aside0.mk (Kd.R_below HO_268003.out hb); replace BK264 := Aside0.mk (blk_below BK264.out hb); replace BK265 := Aside0.mk (blk_below BK265.out hb); replace BK266 := Aside0.mk (blk_below BK266.out hb); replace BK267 := Aside0.mk (blk_below BK267.out hb); replace HB := Aside0.mk (below_step HB.out hb); (try clear hb); (try clear hb2); (try clear hk); (try clear hi); (try clear ho0)) | ((with_reducible refine gate_dst (N := 14) rfl ?_); refine box_event ?hg (N := 14) ?hd (cs := #[.int .i64 0, .int .i64 0, .int .i64 0, .int .i64 0, .slice none 0 0]) (t := 24) ?hr ?_; (case hd => rfl); (case hg => rfl); (case hr => (go_simp; done)); intro gb314 hg w255 hbox hb; have BK314 := Aside0.mk (hbox); have GW314 := Aside0.mk ((by rw [hg]; exact below_size HB.out : w.heap.size ≤ gb314)); have GE314 := Aside0.mk ((by rw [hg]; exact below_size HB.out : w.heap.size ≤ gb314)); have NB264_314 := Aside0.mk ((by rw [hg]; exact Nat.ne_of_lt (blk_lt BK264.out) : gb264 ≠ gb314)); have NB314_264 := Aside0.mk ((by rw [hg]; exact Nat.ne_of_gt (blk_lt BK264.out) : gb314 ≠ gb264)); have NB265_314 := Aside0.mk ((by rw [hg]; exact Nat.ne_of_lt (blk_lt BK265.out) : gb265 ≠ gb314)); have NB314_265 := Aside0.mk ((by rw [hg]; exact Nat.ne_of_gt (blk_lt BK265.out) : gb314 ≠ gb265)); have NB266_314 := Aside0.mk ((by rw [hg]; exact Nat.ne_of_lt (blk_lt BK266.out) : gb266 ≠ gb314)); have NB314_266 := Aside0.mk ((by rw [hg]; exact Nat.ne_of_gt (blk_lt BK266.out) : gb314 ≠ gb266)); have NB267_314 := Aside0.mk ((by rw [hg]; exact Nat.ne_of_lt (blk_lt BK267.out) : gb267 ≠ gb314)); have NB314_267 := Aside0.mk ((by rw [hg]; exact Nat.ne_of_gt (blk_lt BK267.out) : gb314 ≠ gb267)); replace HO_265004 := Aside0.mk (Kd.R_below HO_265004.out hb); replace HO_266004 := Aside0.mk (Kd.R_below HO_266004.out hb); replace HO_267003 := Aside0.mk (Kd.R_below HO_267003.out hb); replace HO_268003 := Aside0.mk (Kd.R_below HO_268003.out hb); replace HO312 := Aside0.mk (Kd.R_below HO312.out hb); replace BK264 := Aside0.mk (blk_below BK264.out hb); replace BK265 := Aside0.mk (blk_below BK265.out hb); replace BK266 := Aside0.mk (blk_below BK266.out hb); replace BK267 := Aside0.mk (blk_below BK267.out hb); replace HB := Aside0.mk (below_step HB.out hb); clear hb hbox hg; have hnb256 := NB314_264.out; have hnc256 := NB264_314.out; have hnb257 := NB314_265.out; have hnc257 := NB265_314.out; have hnb258 := NB314_266.out; have hnc258 := NB266_314.out; have hnb259 := NB314_267.out; have hnc259 := NB267_314.out; have hcz260_0 : w255.cell? ⟨gb314, 0, none⟩ = some (.int .i64 0) := (blk_cell BK314.out 0).trans rfl; have hcz260_1 : w255.cell? ⟨gb314, 1, none⟩ = some (.int .i64 0) := (blk_cell BK314.out 1).trans rfl; have hcz260_2 : w255.cell? ⟨gb314, 2, none⟩ = some (.int .i64 0) := (blk_cell BK314.out 2).trans rfl; have hcz260_3 : w255.cell? ⟨gb314, 3, none⟩ = some (.int .i64 0) := (blk_cell BK314.out 3).trans rfl; have hcz260_4 : w255.cell? ⟨gb314, 4, none⟩ = some (.slice none 0 0) := (blk_cell BK314.out 4).trans rfl; have hfz260_0 := blk_frozen BK314.out 0; have hfz260_1 := blk_frozen BK314.out 1; have hfz260_2 := blk_frozen BK314.out 2; have hfz260_3 := blk_frozen BK314.out 3; have hfz260_4 := blk_frozen BK314.out 4; obtain ⟨Ao261, co261, eo261⟩ := Kd.R_slice HO312.out; subst eo261; have hnb262 := NB264_265.out; have hnc262 := NB265_264.out; have hnb263 := NB264_266.out; have hnc263 := NB266_264.out; have hnb264 := NB264_267.out; have hnc264 := NB267_264.out; have hcz265_0 : w255.cell? ⟨gb264, 0, none⟩ = some (.int .i64 t269) := (blk_cell BK264.out 0).trans rfl; have hcz265_1 : w255.cell? ⟨gb264, 1, none⟩ = some (.int .i64 t270) := (blk_cell BK264.out 1).trans rfl; have hcz265_2 : w255.cell? ⟨gb264, 2, none⟩ = some (.int .i64 t271) := (blk_cell BK264.out 2).trans rfl; have hcz265_3 : w255.cell? ⟨gb264, 3, none⟩ = some (.int .i64 t272) := (blk_cell BK264.out 3).trans rfl; have hcz265_4 : w255.cell? ⟨gb264, 4, none⟩ = some (.slice Ao30 t273.length co30) := (blk_cell BK264.out 4).trans rfl; have hfz265_0 := blk_frozen BK264.out 0; have hfz265_1 := blk_frozen BK264.out 1; have hfz265_2 := blk_frozen BK264.out 2; have hfz265_3 := blk_frozen BK264.out 3; have hfz265_4 := blk_frozen BK264.out 4) | ((with_reducible refine gate_callee (f := 34) rfl ?_); refine goesL_ (some 94) rfl rfl Tryz.func34 (by kernel_rfl) rfl #[.agg #[.int .i64 t269, .int .i64 t270, .int .i64 t271, .int .i64 t272, .slice Ao30 t273.length co30], .string t297] rfl (by (try simp only [List.map_toArray, List.map_cons, List.map_nil]); (rfl)) ?_; (with_reducible refine (note_GetTask.calls kj14 t269 t270 t271 t272 _ _ t273 t297 t315 t316 t317 t318 t321 _ ?side1 ?side2 (HL.out.below (by repeat ((with_reducible first | exact HB.out | refine below_set ?_ GE314.out)))) A212.out).mono ?_); (case side1 => refine (Kd.R_reads' (e := 3) (base := w.heap.size) (ok := fun k_ => (some k_ ≠ (.slice Ao36 t280.length co36 : Value).ownBlock ∧ some k_ ≠ (.slice Ao261 t310.length co261 : Value).ownBlock)) (n := t273.length) (c := co30) ?_).2.2; exact (by exact (Kd.R_mono (Kd.R_far (p := ⟨gb314, 4, none⟩) (Kd.R_far (p := ⟨gb314, 3, none⟩) (Kd.R_far (p := ⟨gb314, 2, none⟩) (Kd.R_far (p := ⟨gb314, 1, none⟩) (Kd.R_far (p := ⟨gb314, 0, none⟩) (Kd.R_types HO_265004.out BK314.out (by decide)) (fun _ hk => hk.2) (.int .i64 t306)) (fun _ hk => hk.2) (.int .i64 t307)) (fun _ hk => hk.2) (.int .i64 t308)) (fun _ hk => hk.2) (.int .i64 t309)) (fun _ hk => hk.2) (.slice Ao261 t310.length co261)) (fun _ h_ => h_.1)))); (case side2 => exact (Kd.R_reads' HO_265004.out).2.1); rintro e w266 ⟨v319, rfl, ho0, hb⟩; refine ⟨_, rfl, ?_⟩; have HO320 := Aside0.mk (Kd.R_lower (Kd.R_new' (Kd.R_new' ho0 (Kd.R_lt (by exact (Kd.R_mono (Kd.R_far (p := ⟨gb314, 4, none⟩) (Kd.R_far (p := ⟨gb314, 3, none⟩) (Kd.R_far (p := ⟨gb314, 2, none⟩) (Kd.R_far (p := ⟨gb314, 1, none⟩) (Kd.R_far (p := ⟨gb314, 0, none⟩) (Kd.R_types HO_267003.out BK314.out (by decide)) (fun _ hk => hk.2) (.int .i64 t306)) (fun _ hk => hk.2) (.int .i64 t307)) (fun _ hk => hk.2) (.int .i64 t308)) (fun _ hk => hk.2) (.int .i64 t309)) (fun _ hk => hk.2) (.slice Ao261 t310.length co261)) (fun _ h_ => h_.1))))) (Kd.R_lt (by exact (Kd.R_mono (Kd.R_far (p := ⟨gb314, 4, none⟩) (Kd.R_far (p := ⟨gb314, 3, none⟩) (Kd.R_far (p := ⟨gb314, 2, none⟩) (Kd.R_far (p := ⟨gb314, 1, none⟩) (Kd.R_far (p := ⟨gb314, 0, none⟩) (Kd.R_types HO_268003.out BK314.out (by decide)) (fun _ hk => hk.2) (.int .i64 t306)) (fun _ hk => hk.2) (.int .i64 t307)) (fun _ hk => hk.2) (.int .i64 t308)) (fun _ hk => hk.2) (.int .i64 t309)) (fun _ hk => hk.2) (.slice Ao261 t310.length co261)) (fun _ h_ => h_.1))))) (below_size (by repeat ((with_reducible first | exact HB.out | refine below_set ?_ GE314.out))))); replace HO_265004 := Aside0.mk (Kd.R_below (by exact (Kd.R_mono (Kd.R_far (p := ⟨gb314, 4, none⟩) (Kd.R_far (p := ⟨gb314, 3, none⟩) (Kd.R_far (p := ⟨gb314, 2, none⟩) (Kd.R_far (p := ⟨gb314, 1, none⟩) (Kd.R_far (p := ⟨gb314, 0, none⟩) (Kd.R_types HO_265004.out BK314.out (by decide)) (fun _ hk => hk.2) (.int .i64 t306)) (fun _ hk => hk.2) (.int .i64 t307)) (fun _ hk => hk.2) (.int .i64 t308)) (fun _ hk => hk.2) (.int .i64 t309)) (fun _ hk => hk.2) (.slice Ao261 t310.length co261)) (fun _ h_ => h_.1))) hb); replace HO_266004 := Aside0.mk (Kd.R_below (by exact (Kd.R_mono (Kd.R_far (p := ⟨gb314, 4, none⟩) (Kd.R_far (p := ⟨gb314, 3, none⟩) (Kd.R_far (p := ⟨gb314, 2, none⟩) (Kd.R_far (p := ⟨gb314, 1, none⟩) (Kd.R_far (p := ⟨gb314, 0, none⟩) (Kd.R_types HO_266004.out BK314.out (by decide)) (fun _ hk => hk.2) (.int .i64 t306)) (fun _ hk => hk.2) (.int .i64 t307)) (fun _ hk => hk.2) (.int .i64 t308)) (fun _ hk => hk.2) (.int .i64 t309)) (fun _ hk => hk.2) (.slice Ao261 t310.length co261)) (fun _ h_ => h_.1))) hb); replace HO_267003 := Aside0.mk (Kd.R_elder' (by exact (Kd.R_mono (Kd.R_far (p := ⟨gb314, 4, none⟩) (Kd.R_far (p := ⟨gb314, 3, none⟩) (Kd.R_far (p := ⟨gb314, 2, none⟩) (Kd.R_far (p := ⟨gb314, 1, none⟩) (Kd.R_far (p := ⟨gb314, 0, none⟩) (Kd.R_types HO_267003.out BK314.out (by decide)) (fun _ hk => hk.2) (.int .i64 t306)) (fun _ hk => hk.2) (.int .i64 t307)) (fun _ hk => hk.2) (.int .i64 t308)) (fun _ hk => hk.2) (.int .i64 t309)) (fun _ hk => hk.2) (.slice Ao261 t310.length co261)) (fun _ h_ => h_.1))) (Kd.R_base ho0) hb); replace HO_268003 := Aside0.mk (Kd.R_elder' (by exact (Kd.R_mono (Kd.R_far (p := ⟨gb314, 4, none⟩) (Kd.R_far (p := ⟨gb314, 3, none⟩) (Kd.R_far (p := ⟨gb314, 2, none⟩) (Kd.R_far (p := ⟨gb314, 1, none⟩) (Kd.R_far (p := ⟨gb314, 0, none⟩) (Kd.R_types HO_268003.out BK314.out (by decide)) (fun _ hk => hk.2) (.int .i64 t306)) (fun _ hk => hk.2) (.int .i64 t307)) (fun _ hk => hk.2) (.int .i64 t308)) (fun _ hk => hk.2) (.int .i64 t309)) (fun _ hk => hk.2) (.slice Ao261 t310.length co261)) (fun _ h_ => h_.1))) (Kd.R_base ho0) hb); replace HO312 := Aside0.mk (Kd.R_below (by exact (Kd.R_mono (Kd.R_far (p := ⟨gb314, 4, none⟩) (Kd.R_far (p := ⟨gb314, 3, none⟩) (Kd.R_far (p := ⟨gb314, 2, none⟩) (Kd.R_far (p := ⟨gb314, 1, none⟩) (Kd.R_far (p := ⟨gb314, 0, none⟩) (Kd.R_types HO312.out BK314.out (by decide)) (fun _ hk => hk.2) (.int .i64 t306)) (fun _ hk => hk.2) (.int .i64 t307)) (fun _ hk => hk.2) (.int .i64 t308)) (fun _ hk => hk.2) (.int .i64 t309)) (fun _ hk => hk.2) (.slice Ao261 t310.length co261)) (fun _ h_ => h_.1))) hb); replace BK264 := Aside0.mk (blk_below (g := gb264) (o := .cells #[.int .i64 t269, .int .i64 t270, .int .i64 t271, .int .i64 t272, .slice Ao30 t273.length co30] 24 (0, 0)) (by refine blk_far ?_ NB264_314.out _; refine blk_far ?_ NB264_314.out _; refine blk_far ?_ NB264_314.out _; refine blk_far ?_ NB264_314.out _; refine blk_far ?_ NB264_314.out _; exact BK264.out) hb); replace BK265 := Aside0.mk (blk_below (g := gb265) (o := .cells #[.int .i64 t276, .int .i64 t277, .int .i64 t278, .int .i64 t279, .slice Ao36 t280.length co36] 24 (0, 0)) (by refine blk_far ?_ NB265_314.out _; refine blk_far ?_ NB265_314.out _; refine blk_far ?_ NB265_314.out _; refine blk_far ?_ NB265_314.out _; refine blk_far ?_ NB265_314.out _; exact BK265.out) hb); replace BK266 := Aside0.mk (blk_below (g := gb266) (o := .cells #[.int .i64 t283, .int .i64 t284, .int .i64 t285, .slice Ao41 t286.length co41] 27 (0, 0)) (by refine blk_far ?_ NB266_314.out _; refine blk_far ?_ NB266_314.out _; refine blk_far ?_ NB266_314.out _; refine blk_far ?_ NB266_314.out _; refine blk_far ?_ NB266_314.out _; exact BK266.out) hb); replace BK267 := Aside0.mk (blk_below (g := gb267) (o := .cells #[.int .i64 t289, .int .i64 t290, .int .i64 t291, .slice Ao46 t292.length co46] 27 (0, 0)) (by refine blk_far ?_ NB267_314.out _; refine blk_far ?_ NB267_314.out _; refine blk_far ?_ NB267_314.out _; refine blk_far ?_ NB267_314.out _; refine blk_far ?_ NB267_314.out _; exact BK267.out) hb); replace BK314 := Aside0.mk (blk_below (g := gb314) (o := .cells #[.int .i64 t306, .int .i64 t307, .int .i64 t308, .int .i64 t309, .slice Ao261 t310.length co261] 24 (0, 0)) (by refine blk_put (cs := #[.int .i64 t306, .int .i64 t307, .int .i64 t308, .int .i64 t309, .slice none 0 0]) ?_ 4 _ rfl; refine blk_put (cs := #[.int .i64 t306, .int .i64 t307, .int .i64 t308, .int .i64 0, .slice none 0 0]) ?_ 3 _ rfl; refine blk_put (cs := #[.int .i64 t306, .int .i64 t307, .int .i64 0, .int .i64 0, .slice none 0 0]) ?_ 2 _ rfl; refine blk_put (cs := #[.int .i64 t306, .int .i64 0, .int .i64 0, .int .i64 0, .slice none 0 0]) ?_ 1 _ rfl; refine blk_put (cs := #[.int .i64 0, .int .i64 0, .int .i64 0, .int .i64 0, .slice none 0 0]) ?_ 0 _ rfl; exact BK314.out) hb); replace HB := Aside0.mk (below_step (by repeat ((with_reducible first | exact HB.out | refine below_set ?_ GE314.out))) hb); (try clear hb); (try clear hb2); (try clear hk); (try clear hi); (try clear ho0)) | ((with_reducible refine gate_dst (N := 16) rfl ?_); refine box_event ?hg (N := 16) ?hd (cs := #[.int .i64 0, .int .i64 0, .int .i64 0, .slice none 0 0]) (t := 27) ?hr ?_; (case hd => rfl); (case hg => rfl); (case hr => (go_simp; done)); intro gb322 hg w267 hbox hb; have BK322 := Aside0.mk (hbox); have GW322 := Aside0.mk ((by rw [hg]; exact below_size HB.out : w.heap.size ≤ gb322)); have GE322 := Aside0.mk ((by rw [hg]; exact below_size HB.out : w.heap.size ≤ gb322)); have NB264_322 := Aside0.mk ((by rw [hg]; exact Nat.ne_of_lt (blk_lt BK264.out) : gb264 ≠ gb322)); have NB322_264 := Aside0.mk ((by rw [hg]; exact Nat.ne_of_gt (blk_lt BK264.out) : gb322 ≠ gb264)); have NB265_322 := Aside0.mk ((by rw [hg]; exact Nat.ne_of_lt (blk_lt BK265.out) : gb265 ≠ gb322)); have NB322_265 := Aside0.mk ((by rw [hg]; exact Nat.ne_of_gt (blk_lt BK265.out) : gb322 ≠ gb265)); have NB266_322 := Aside0.mk ((by rw [hg]; exact Nat.ne_of_lt (blk_lt BK266.out) : gb266 ≠ gb322)); have NB322_266 := Aside0.mk ((by rw [hg]; exact Nat.ne_of_gt (blk_lt BK266.out) : gb322 ≠ gb266)); have NB267_322 := Aside0.mk ((by rw [hg]; exact Nat.ne_of_lt (blk_lt BK267.out) : gb267 ≠ gb322)); have NB322_267 := Aside0.mk ((by rw [hg]; exact Nat.ne_of_gt (blk_lt BK267.out) : gb322 ≠ gb267)); have NB314_322 := Aside0.mk ((by rw [hg]; exact Nat.ne_of_lt (blk_lt BK314.out) : gb314 ≠ gb322)); have NB322_314 := Aside0.mk ((by rw [hg]; exact Nat.ne_of_gt (blk_lt BK314.out) : gb322 ≠ gb314)); replace HO_265004 := Aside0.mk (Kd.R_below HO_265004.out hb); replace HO_266004 := Aside0.mk (Kd.R_below HO_266004.out hb); replace HO_267003 := Aside0.mk (Kd.R_below HO_267003.out hb); replace HO_268003 := Aside0.mk (Kd.R_below HO_268003.out hb); replace HO312 := Aside0.mk (Kd.R_below HO312.out hb); replace HO320 := Aside0.mk (Kd.R_below HO320.out hb); replace BK264 := Aside0.mk (blk_below BK264.out hb); replace BK265 := Aside0.mk (blk_below BK265.out hb); replace BK266 := Aside0.mk (blk_below BK266.out hb); replace BK267 := Aside0.mk (blk_below BK267.out hb); replace BK314 := Aside0.mk (blk_below BK314.out hb); replace HB := Aside0.mk (below_step HB.out hb); clear hb hbox hg; have hnb268 := NB322_264.out; have hnc268 := NB264_322.out; have hnb269 := NB322_265.out; have hnc269 := NB265_322.out; have hnb270 := NB322_266.out; have hnc270 := NB266_322.out; have hnb271 := NB322_267.out; have hnc271 := NB267_322.out; have hnb272 := NB322_314.out; have hnc272 := NB314_322.out; have hcz273_0 : w267.cell? ⟨gb322, 0, none⟩ = some (.int .i64 0) := (blk_cell BK322.out 0).trans rfl; have hcz273_1 : w267.cell? ⟨gb322, 1, none⟩ = some (.int .i64 0) := (blk_cell BK322.out 1).trans rfl; have hcz273_2 : w267.cell? ⟨gb322, 2, none⟩ = some (.int .i64 0) := (blk_cell BK322.out 2).trans rfl; have hcz273_3 : w267.cell? ⟨gb322, 3, none⟩ = some (.slice none 0 0) := (blk_cell BK322.out 3).trans rfl; have hfz273_0 := blk_frozen BK322.out 0; have hfz273_1 := blk_frozen BK322.out 1; have hfz273_2 := blk_frozen BK322.out 2; have hfz273_3 := blk_frozen BK322.out 3; obtain ⟨Ao274, co274, eo274⟩ := Kd.R_slice HO320.out; subst eo274; have hcz275_0 : w267.cell? ⟨gb314, 0, none⟩ = some (.int .i64 t306) := (blk_cell BK314.out 0).trans rfl; have hcz275_1 : w267.cell? ⟨gb314, 1, none⟩ = some (.int .i64 t307) := (blk_cell BK314.out 1).trans rfl; have hcz275_2 : w267.cell? ⟨gb314, 2, none⟩ = some (.int .i64 t308) := (blk_cell BK314.out 2).trans rfl; have hcz275_3 : w267.cell? ⟨gb314, 3, none⟩ = some (.int .i64 t309) := (blk_cell BK314.out 3).trans rfl; have hcz275_4 : w267.cell? ⟨gb314, 4, none⟩ = some (.slice Ao261 t310.length co261) := (blk_cell BK314.out 4).trans rfl; have hfz275_0 := blk_frozen BK314.out 0; have hfz275_1 := blk_frozen BK314.out 1; have hfz275_2 := blk_frozen BK314.out 2; have hfz275_3 := blk_frozen BK314.out 3; have hfz275_4 := blk_frozen BK314.out 4; have hcz276_0 : w267.cell? ⟨gb264, 0, none⟩ = some (.int .i64 t269) := (blk_cell BK264.out 0).trans rfl; have hcz276_1 : w267.cell? ⟨gb264, 1, none⟩ = some (.int .i64 t270) := (blk_cell BK264.out 1).trans rfl; have hcz276_2 : w267.cell? ⟨gb264, 2, none⟩ = some (.int .i64 t271) := (blk_cell BK264.out 2).trans rfl; have hcz276_3 : w267.cell? ⟨gb264, 3, none⟩ = some (.int .i64 t272) := (blk_cell BK264.out 3).trans rfl; have hcz276_4 : w267.cell? ⟨gb264, 4, none⟩ = some (.slice Ao30 t273.length co30) := (blk_cell BK264.out 4).trans rfl; have hfz276_0 := blk_frozen BK264.out 0; have hfz276_1 := blk_frozen BK264.out 1; have hfz276_2 := blk_frozen BK264.out 2; have hfz276_3 := blk_frozen BK264.out 3; have hfz276_4 := blk_frozen BK264.out 4) | (go_at_call 32; (with_reducible refine (hortatorlaw7_sameConfig.calls kj14 t306 t307 t308 t309 _ _ t310 t269 t270 t271 t272 _ _ t273 true _ ?side1 ?side2 ?side3 ?side4 A214.out).mono ?_); (case side1 => refine (Kd.R_reads' (e := 3) (base := w.heap.size) (ok := fun k_ => ((True ∧ some k_ ≠ (.slice Ao30 t273.length co30 : Value).ownBlock) ∧ some k_ ≠ (.slice Ao36 t280.length co36 : Value).ownBlock)) (n := t310.length) (c := co261) ?_).2.2; exact (by exact (Kd.R_mono (Kd.R_far (p := ⟨gb322, 3, none⟩) (Kd.R_far (p := ⟨gb322, 2, none⟩) (Kd.R_far (p := ⟨gb322, 1, none⟩) (Kd.R_far (p := ⟨gb322, 0, none⟩) (Kd.R_types HO312.out BK322.out (by decide)) (fun _ hk => hk.2) (.int .i64 t315)) (fun _ hk => hk.2) (.int .i64 t316)) (fun _ hk => hk.2) (.int .i64 t317)) (fun _ hk => hk.2) (.slice Ao274 t318.length co274)) (fun _ h_ => h_.1)))); (case side2 => exact (Kd.R_reads' HO312.out).2.1); (case side3 => refine (Kd.R_reads' (e := 3) (base := w.heap.size) (ok := fun k_ => (some k_ ≠ (.slice Ao36 t280.length co36 : Value).ownBlock ∧ some k_ ≠ (.slice Ao261 t310.length co261 : Value).ownBlock)) (n := t273.length) (c := co30) ?_).2.2; exact (by exact (Kd.R_mono (Kd.R_far (p := ⟨gb322, 3, none⟩) (Kd.R_far (p := ⟨gb322, 2, none⟩) (Kd.R_far (p := ⟨gb322, 1, none⟩) (Kd.R_far (p := ⟨gb322, 0, none⟩) (Kd.R_types HO_265004.out BK322.out (by decide)) (fun _ hk => hk.2) (.int .i64 t315)) (fun _ hk => hk.2) (.int .i64 t316)) (fun _ hk => hk.2) (.int .i64 t317)) (fun _ hk => hk.2) (.slice Ao274 t318.length co274)) (fun _ h_ => h_.1)))); (case side4 => exact (Kd.R_reads' HO_265004.out).2.1); rintro e w277 ⟨rfl, hb⟩; replace HO_265004 := Aside0.mk (Kd.R_below (by exact (Kd.R_mono (Kd.R_far (p := ⟨gb322, 3, none⟩) (Kd.R_far (p := ⟨gb322, 2, none⟩) (Kd.R_far (p := ⟨gb322, 1, none⟩) (Kd.R_far (p := ⟨gb322, 0, none⟩) (Kd.R_types HO_265004.out BK322.out (by decide)) (fun _ hk => hk.2) (.int .i64 t315)) (fun _ hk => hk.2) (.int .i64 t316)) (fun _ hk => hk.2) (.int .i64 t317)) (fun _ hk => hk.2) (.slice Ao274 t318.length co274)) (fun _ h_ => h_.1))) hb); replace HO_266004 := Aside0.mk (Kd.R_below (by exact (Kd.R_mono (Kd.R_far (p := ⟨gb322, 3, none⟩) (Kd.R_far (p := ⟨gb322, 2, none⟩) (Kd.R_far (p := ⟨gb322, 1, none⟩) (Kd.R_far (p := ⟨gb322, 0, none⟩) (Kd.R_types HO_266004.out BK322.out (by decide)) (fun _ hk => hk.2) (.int .i64 t315)) (fun _ hk => hk.2) (.int .i64 t316)) (fun _ hk => hk.2) (.int .i64 t317)) (fun _ hk => hk.2) (.slice Ao274 t318.length co274)) (fun _ h_ => h_.1))) hb); replace HO_267003 := Aside0.mk (Kd.R_below (by exact (Kd.R_mono (Kd.R_far (p := ⟨gb322, 3, none⟩) (Kd.R_far (p := ⟨gb322, 2, none⟩) (Kd.R_far (p := ⟨gb322, 1, none⟩) (Kd.R_far (p := ⟨gb322, 0, none⟩) (Kd.R_types HO_267003.out BK322.out (by decide)) (fun _ hk => hk.2) (.int .i64 t315)) (fun _ hk => hk.2) (.int .i64 t316)) (fun _ hk => hk.2) (.int .i64 t317)) (fun _ hk => hk.2) (.slice Ao274 t318.length co274)) (fun _ h_ => h_.1))) hb); replace HO_268003 := Aside0.mk (Kd.R_below (by exact (Kd.R_mono (Kd.R_far (p := ⟨gb322, 3, none⟩) (Kd.R_far (p := ⟨gb322, 2, none⟩) (Kd.R_far (p := ⟨gb322, 1, none⟩) (Kd.R_far (p := ⟨gb322, 0, none⟩) (Kd.R_types HO_268003.out BK322.out (by decide)) (fun _ hk => hk.2) (.int .i64 t315)) (fun _ hk => hk.2) (.int .i64 t316)) (fun _ hk => hk.2) (.int .i64 t317)) (fun _ hk => hk.2) (.slice Ao274 t318.length co274)) (fun _ h_ => h_.1))) hb); replace HO312 := Aside0.mk (Kd.R_below (by exact (Kd.R_mono (Kd.R_far (p := ⟨gb322, 3, none⟩) (Kd.R_far (p := ⟨gb322, 2, none⟩) (Kd.R_far (p := ⟨gb322, 1, none⟩) (Kd.R_far (p := ⟨gb322, 0, none⟩) (Kd.R_types HO312.out BK322.out (by decide)) (fun _ hk => hk.2) (.int .i64 t315)) (fun _ hk => hk.2) (.int .i64 t316)) (fun _ hk => hk.2) (.int .i64 t317)) (fun _ hk => hk.2) (.slice Ao274 t318.length co274)) (fun _ h_ => h_.1))) hb); replace HO320 := Aside0.mk (Kd.R_below (by exact (Kd.R_mono (Kd.R_far (p := ⟨gb322, 3, none⟩) (Kd.R_far (p := ⟨gb322, 2, none⟩) (Kd.R_far (p := ⟨gb322, 1, none⟩) (Kd.R_far (p := ⟨gb322, 0, none⟩) (Kd.R_types HO320.out BK322.out (by decide)) (fun _ hk => hk.2) (.int .i64 t315)) (fun _ hk => hk.2) (.int .i64 t316)) (fun _ hk => hk.2) (.int .i64 t317)) (fun _ hk => hk.2) (.slice Ao274 t318.length co274)) (fun _ h_ => h_.1))) hb); replace BK264 := Aside0.mk (blk_below (g := gb264) (o := .cells #[.int .i64 t269, .int .i64 t270, .int .i64 t271, .int .i64 t272, .slice Ao30 t273.length co30] 24 (0, 0)) (by refine blk_far ?_ NB264_322.out _; refine blk_far ?_ NB264_322.out _; refine blk_far ?_ NB264_322.out _; refine blk_far ?_ NB264_322.out _; exact BK264.out) hb); replace BK265 := Aside0.mk (blk_below (g := gb265) (o := .cells #[.int .i64 t276, .int .i64 t277, .int .i64 t278, .int .i64 t279, .slice Ao36 t280.length co36] 24 (0, 0)) (by refine blk_far ?_ NB265_322.out _; refine blk_far ?_ NB265_322.out _; refine blk_far ?_ NB265_322.out _; refine blk_far ?_ NB265_322.out _; exact BK265.out) hb); replace BK266 := Aside0.mk (blk_below (g := gb266) (o := .cells #[.int .i64 t283, .int .i64 t284, .int .i64 t285, .slice Ao41 t286.length co41] 27 (0, 0)) (by refine blk_far ?_ NB266_322.out _; refine blk_far ?_ NB266_322.out _; refine blk_far ?_ NB266_322.out _; refine blk_far ?_ NB266_322.out _; exact BK266.out) hb); replace BK267 := Aside0.mk (blk_below (g := gb267) (o := .cells #[.int .i64 t289, .int .i64 t290, .int .i64 t291, .slice Ao46 t292.length co46] 27 (0, 0)) (by refine blk_far ?_ NB267_322.out _; refine blk_far ?_ NB267_322.out _; refine blk_far ?_ NB267_322.out _; refine blk_far ?_ NB267_322.out _; exact BK267.out) hb); replace BK314 := Aside0.mk (blk_below (g := gb314) (o := .cells #[.int .i64 t306, .int .i64 t307, .int .i64 t308, .int .i64 t309, .slice Ao261 t310.length co261] 24 (0, 0)) (by refine blk_far ?_ NB314_322.out _; refine blk_far ?_ NB314_322.out _; refine blk_far ?_ NB314_322.out _; refine blk_far ?_ NB314_322.out _; exact BK314.out) hb); replace BK322 := Aside0.mk (blk_below (g := gb322) (o := .cells #[.int .i64 t315, .int .i64 t316, .int .i64 t317, .slice Ao274 t318.length co274] 27 (0, 0)) (by refine blk_put (cs := #[.int .i64 t315, .int .i64 t316, .int .i64 t317, .slice none 0 0]) ?_ 3 _ rfl; refine blk_put (cs := #[.int .i64 t315, .int .i64 t316, .int .i64 0, .slice none 0 0]) ?_ 2 _ rfl; refine blk_put (cs := #[.int .i64 t315, .int .i64 0, .int .i64 0, .slice none 0 0]) ?_ 1 _ rfl; refine blk_put (cs := #[.int .i64 0, .int .i64 0, .int .i64 0, .slice none 0 0]) ?_ 0 _ rfl; exact BK322.out) hb); replace HB := Aside0.mk (below_step (by repeat ((with_reducible first | exact HB.out | refine below_set ?_ GE322.out))) hb); (try clear hb); (try clear hb2); (try clear hk); (try clear hi); have hcz278_0 : w277.cell? ⟨gb264, 0, none⟩ = some (.int .i64 t269) := (blk_cell BK264.out 0).trans rfl; have hcz278_1 : w277.cell? ⟨gb264, 1, none⟩ = some (.int .i64 t270) := (blk_cell BK264.out 1).trans rfl; have hcz278_2 : w277.cell? ⟨gb264, 2, none⟩ = some (.int .i64 t271) := (blk_cell BK264.out 2).trans rfl; have hcz278_3 : w277.cell? ⟨gb264, 3, none⟩ = some (.int .i64 t272) := (blk_cell BK264.out 3).trans rfl; have hcz278_4 : w277.cell? ⟨gb264, 4, none⟩ = some (.slice Ao30 t273.length co30) := (blk_cell BK264.out 4).trans rfl; have hfz278_0 := blk_frozen BK264.out 0; have hfz278_1 := blk_frozen BK264.out 1; have hfz278_2 := blk_frozen BK264.out 2; have hfz278_3 := blk_frozen BK264.out 3; have hfz278_4 := blk_frozen BK264.out 4; have hnb279 := NB266_265.out; have hnc279 := NB265_266.out; have hnb280 := NB266_267.out; have hnc280 := NB267_266.out; have hcz281_0 : w277.cell? ⟨gb266, 0, none⟩ = some (.int .i64 t283) := (blk_cell BK266.out 0).trans rfl; have hcz281_1 : w277.cell? ⟨gb266, 1, none⟩ = some (.int .i64 t284) := (blk_cell BK266.out 1).trans rfl; have hcz281_2 : w277.cell? ⟨gb266, 2, none⟩ = some (.int .i64 t285) := (blk_cell BK266.out 2).trans rfl; have hcz281_3 : w277.cell? ⟨gb266, 3, none⟩ = some (.slice Ao41 t286.length co41) := (blk_cell BK266.out 3).trans rfl; have hfz281_0 := blk_frozen BK266.out 0; have hfz281_1 := blk_frozen BK266.out 1; have hfz281_2 := blk_frozen BK266.out 2; have hfz281_3 := blk_frozen BK266.out 3) | (go_at_call 23; (with_reducible refine (hortatorref7_Task.calls t269 t270 t271 t272 _ _ t273 t283 t284 t285 _ _ t286 false _ ?side1 ?side2 ?side3 ?side4 A216.out).mono ?_); (case side1 => repeat ((exact (Kd.R_reads' HO_265004.out).2.2))); (case side2 => exact (Kd.R_reads' HO_265004.out).2.1); (case side3 => repeat ((exact (Kd.R_reads' HO_267003.out).2.2))); (case side4 => exact (Kd.R_reads' HO_267003.out).2.1); rintro e w282 ⟨rfl, hb⟩; replace HO_265004 := Aside0.mk (Kd.R_below HO_265004.out hb); replace HO_266004 := Aside0.mk (Kd.R_below HO_266004.out hb); replace HO_267003 := Aside0.mk (Kd.R_below HO_267003.out hb); replace HO_268003 := Aside0.mk (Kd.R_below HO_268003.out hb); replace HO312 := Aside0.mk (Kd.R_below HO312.out hb); replace HO320 := Aside0.mk (Kd.R_below HO320.out hb); replace BK264 := Aside0.mk (blk_below BK264.out hb); replace BK265 := Aside0.mk (blk_below BK265.out hb); replace BK266 := Aside0.mk (blk_below BK266.out hb); replace BK267 := Aside0.mk (blk_below BK267.out hb); replace BK314 := Aside0.mk (blk_below BK314.out hb); replace BK322 := Aside0.mk (blk_below BK322.out hb); replace HB := Aside0.mk (below_step HB.out hb); (try clear hb); (try clear hb2); (try clear hk); (try clear hi); have hcz283_0 : w282.cell? ⟨gb322, 0, none⟩ = some (.int .i64 t315) := (blk_cell BK322.out 0).trans rfl; have hcz283_1 : w282.cell? ⟨gb322, 1, none⟩ = some (.int .i64 t316) := (blk_cell BK322.out 1).trans rfl; have hcz283_2 : w282.cell? ⟨gb322, 2, none⟩ = some (.int .i64 t317) := (blk_cell BK322.out 2).trans rfl; have hcz283_3 : w282.cell? ⟨gb322, 3, none⟩ = some (.slice Ao274 t318.length co274) := (blk_cell BK322.out 3).trans rfl; have hfz283_0 := blk_frozen BK322.out 0; have hfz283_1 := blk_frozen BK322.out 1; have hfz283_2 := blk_frozen BK322.out 2; have hfz283_3 := blk_frozen BK322.out 3) | (go_at_call 18; (refine (rule_Same.calls kj14 t315 t316 t317 _ _ t318 0 0 0 _ _ ([] : List (S43)) true _ ?side1 ?side2 ?side3 ?side4 A252.out).mono ?_); (case side1 => repeat ((exact (Kd.R_reads' HO320.out).2.2))); (case side2 => exact (Kd.R_reads' HO320.out).2.1); (case side3 => exact Kd.C_nil _ _); (case side4 => exact Nat.le_refl _); rintro e w284 ⟨rfl, hb⟩; replace HO_265004 := Aside0.mk (Kd.R_below HO_265004.out hb); replace HO_266004 := Aside0.mk (Kd.R_below HO_266004.out hb); replace HO_267003 := Aside0.mk (Kd.R_below HO_267003.out hb); replace HO_268003 := Aside0.mk (Kd.R_below HO_268003.out hb); replace HO312 := Aside0.mk (Kd.R_below HO312.out hb); replace HO320 := Aside0.mk (Kd.R_below HO320.out hb); replace BK264 := Aside0.mk (blk_below BK264.out hb); replace BK265 := Aside0.mk (blk_below BK265.out hb); replace BK266 := Aside0.mk (blk_below BK266.out hb); replace BK267 := Aside0.mk (blk_below BK267.out hb); replace BK314 := Aside0.mk (blk_below BK314.out hb); replace BK322 := Aside0.mk (blk_below BK322.out hb); replace HB := Aside0.mk (below_step HB.out hb); (try clear hb); (try clear hb2); (try clear hk); (try clear hi)))
           go_ret
           exact ⟨by (rfl), by repeat ((with_reducible (exact HB.out)))⟩
          ·replace c253 := Bool.eq_false_iff.mpr c253
           subst c253
           have H1 : (none) = some r := by rw [if_neg (show ¬ (false = true) by decide)] at H; exact H
           clear H
           have H := H1
           clear H1
           exact absurd H (by simp)
        ·rw [if_neg c217] at H
         exact absurd H (by simp)
       ·replace c215 := Bool.eq_false_iff.mpr c215
        subst c215
        have H1 : (none) = some r := by rw [if_neg (show ¬ (false = true) by decide)] at H; exact H
        clear H
        have H := H1
        clear H1
        exact absurd H (by simp)
      ·rw [if_neg c213] at H
       exact absurd H (by simp)
 ·replace c6 := Bool.eq_false_iff.mpr c6
  subst c6
  have H1 : (none) = some r := by rw [if_neg (show ¬ (false = true) by decide)] at H; exact H
  clear H
  have H := H1
  clear H1
  exact absurd H (by simp)
end Go.Proofs.YtjjlicancbmjiaaGreatDoor.PNeg
