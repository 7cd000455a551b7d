-- Written by a program of this session (wip/pp.py) over the kit's print, with hand-proved contracts beside it.
import Derived.Test.YtjjlicancbmjiaaGreatDoorL2
import Derived.Test.YtjjlicancbmjiaaGreatDoorL3
import Derived.Test.YtjjlicancbmjiaaGreatDoorL4
import Derived.Test.YtjjlicancbmjiaaGreatDoorL5
import Derived.Test.YtjjlicancbmjiaaGreatDoorL6
import Derived.Test.YtjjlicancbmjiaaGreatDoorL7
import Derived.Test.YtjjlicancbmjiaaGreatDoorL8
import Derived.Test.YtjjlicancbmjiaaGreatDoorPBegx13
import Derived.Test.YtjjlicancbmjiaaGreatDoorPBegx14
namespace Go.Proofs.YtjjlicancbmjiaaGreatDoor.PBeg
open Go.Shelf Go.Lib Go.RowKit Go.Proofs.YtjjlicancbmjiaaGreatDoorW.PrintWords Go.Proofs.YtjjlicancbmjiaaGreatDoorW.PrintLast Go.Proofs.YtjjlicancbmjiaaGreatDoorW.PrintMore
attribute [local go_sem] max2_int min2_int max_two min_two max_three min_three max_four min_four   -- for this text's walks alone
set_option linter.unusedVariables false
set_option linter.unusedSimpArgs false

/-! ### hortatorlaw7_RuleAll: function 3 -/
mutual
def hortatorlaw7_RuleAll.j0 : Nat → Bool → Int → Int → Int → Int → List Int → Int → Int → Int → List (S43) → Int → Int → Int → Int → Option (Bool)
 | 0, _, _, _, _, _, _, _, _, _, _, _, _, _, _ => none
 | k + 1, x50, x160000, x160001, x160002, x160003, x160004, x161000, x161001, x161002, x161003, x164000, x164001, x164002, x164003 => if x50 = true then (none) else ((hortatorref7_Config.f k x160000 x160001 x160002 x160003 x160004).bind fun t191 => (if t191 = true then ((rule_Task.f k x160000 x160001 x160002 x160003 x160004 x161000 x161001 x161002 x161003).bind fun t192 => ((hortatorref7_Task.f x160000 x160001 x160002 x160003 x160004 x161000 x161001 x161002 x161003).bind fun t193 => (if (t192 != t193) = true then (hortatorlaw7_RuleAll.j1 k true x160000 x160001 x160002 x160003 x160004 x161000 x161001 x161002 x161003) else ((rule_Piece.f x160000 x160001 x160002 x160003 x160004 x164000 x164001 x164002 x164003).bind fun t194 => ((hortatorref7_Piece.f x160000 x160001 x160002 x160003 x160004 x164000 x164001 x164002 x164003).bind fun t195 => (hortatorlaw7_RuleAll.j1 k (t194 != t195) x160000 x160001 x160002 x160003 x160004 x161000 x161001 x161002 x161003)))))) else (some true)))
def hortatorlaw7_RuleAll.j1 : Nat → Bool → Int → Int → Int → Int → List Int → Int → Int → Int → List (S43) → Option (Bool)
 | 0, _, _, _, _, _, _, _, _, _, _ => none
 | k + 1, x69, x160000, x160001, x160002, x160003, x160004, x161000, x161001, x161002, x161003 => if x69 = true then (none) else ((rule_Agents.f k x160000 x160001 x160002 x160003 x160004 x161000 x161001 x161002 x161003).bind fun t196 => ((hortatorref7_Task.f x160000 x160001 x160002 x160003 x160004 x161000 x161001 x161002 x161003).bind fun t199 => (if t199 = true then ((hortatorref7_Agents.f k x160000 x160001 x160002 x160003 x160004 x161000 x161001 x161002 x161003).bind fun t200 => (hortatorlaw7_RuleAll.l0 k t196 t200 0)) else (some ((t196.length : Int) == 0)))))
def hortatorlaw7_RuleAll.l0 : Nat → List Int → List Int → Int → Option (Bool)
 | 0, _, _, _ => none
 | k + 1, x12, x13, x14 => if x14 < (x12.length : Int) then (hortatorlaw7_RuleAll.j3 k x12 x13 x14 (decide (x14 < (x13.length : Int)))) else (hortatorlaw7_RuleAll.j3 k x12 x13 x14 false)
def hortatorlaw7_RuleAll.j3 : Nat → List Int → List Int → Int → Bool → Option (Bool)
 | 0, _, _, _, _ => none
 | k + 1, x12, x13, x14, x92 => if x92 = true then (if 0 ≤ x14 then (if x14 < (x12.length : Int) then (if x14 < (x13.length : Int) then (if (rd x12 x14) = (rd x13 x14) then (hortatorlaw7_RuleAll.l0 k x12 x13 (wrap64 (x14 + 1))) else (none)) else (none)) else (none)) else (none)) else (some ((x12.length : Int) == (x13.length : Int)))
end
def hortatorlaw7_RuleAll.f (k : Nat) (a0_0 : Int) (a0_1 : Int) (a0_2 : Int) (a0_3 : Int) (l0_4 : List Int) (a1_0 : Int) (a1_1 : Int) (a1_2 : Int) (l1_3 : List (S43)) (a2_0 : Int) (a2_1 : Int) (a2_2 : Int) (l2_3 : List (S43)) (a3_0 : Int) (a3_1 : Int) (a3_2 : Int) (a4_0 : Int) (a4_1 : Int) (a4_2 : Int) (a4_3 : Int) : Option (Bool) := (begun7.f).bind fun t164 => (if t164 = true then ((hortatorlaw7_Config.f a0_0 a0_1 a0_2 a0_3 l0_4).bind fun bt165 => ((hortatorlaw7_Task.f a1_0 a1_1 a1_2 l1_3).bind fun bt172 => ((hortatorlaw7_Task.f a2_0 a2_1 a2_2 l2_3).bind fun bt178 => ((rule_Config.f bt165.1 bt165.2.1 bt165.2.2.1 bt165.2.2.2.1 bt165.2.2.2.2).bind fun t184 => ((hortatorref7_Config.f k bt165.1 bt165.2.1 bt165.2.2.1 bt165.2.2.2.1 bt165.2.2.2.2).bind fun t185 => (if (t184 != t185) = true then (hortatorlaw7_RuleAll.j0 k true bt165.1 bt165.2.1 bt165.2.2.1 bt165.2.2.2.1 bt165.2.2.2.2 bt172.1 bt172.2.1 bt172.2.2.1 bt172.2.2.2 a4_0 a4_1 a4_2 a4_3) else ((rule_Same.f k bt172.1 bt172.2.1 bt172.2.2.1 bt172.2.2.2 bt178.1 bt178.2.1 bt178.2.2.1 bt178.2.2.2).bind fun t186 => ((hortatorref7_Same.f k bt172.1 bt172.2.1 bt172.2.2.1 bt172.2.2.2 bt178.1 bt178.2.1 bt178.2.2.1 bt178.2.2.2).bind fun t187 => (if (t186 != t187) = true then (hortatorlaw7_RuleAll.j0 k true bt165.1 bt165.2.1 bt165.2.2.1 bt165.2.2.2.1 bt165.2.2.2.2 bt172.1 bt172.2.1 bt172.2.2.1 bt172.2.2.2 a4_0 a4_1 a4_2 a4_3) else ((rule_Same.f k bt172.1 bt172.2.1 bt172.2.2.1 bt172.2.2.2 bt172.1 bt172.2.1 bt172.2.2.1 bt172.2.2.2).bind fun t188 => (if t188 = true then ((rule_Load.f a3_0 a3_1 a3_2).bind fun t189 => ((hortatorref7_Load.f a3_0 a3_1 a3_2).bind fun t190 => (hortatorlaw7_RuleAll.j0 k (t189 != t190) bt165.1 bt165.2.1 bt165.2.2.1 bt165.2.2.2.1 bt165.2.2.2.2 bt172.1 bt172.2.1 bt172.2.2.1 bt172.2.2.2 a4_0 a4_1 a4_2 a4_3))) else (hortatorlaw7_RuleAll.j0 k true bt165.1 bt165.2.1 bt165.2.2.1 bt165.2.2.2.1 bt165.2.2.2.2 bt172.1 bt172.2.1 bt172.2.2.1 bt172.2.2.2 a4_0 a4_1 a4_2 a4_3)))))))))))) else (none))
def hortatorlaw7_RuleAll.T4 : Bool × List (List Nat × List Nat) := (true, [([], []), ([0], [0]), ([], []), ([2, 1], [2]), ([], []), ([4, 3], [4]), ([1, 5, 0, 1], [1]), ([3, 6, 0, 1, 2, 3, 6], [3]), ([5, 7, 0, 1, 2, 3, 4, 5, 6, 7], [5])])
def hortatorlaw7_RuleAll.B4 : List Nat := [0, 1, 0, 7, 0, 31, 63, 127, 255]
theorem hortatorlaw7_RuleAll.tab4 : rtab .any (opsOf Tryz.f3 4) = hortatorlaw7_RuleAll.T4 := by kernel_rfl
theorem hortatorlaw7_RuleAll.bits4 : waitsOk hortatorlaw7_RuleAll.T4.2 hortatorlaw7_RuleAll.B4 = true := by kernel_rfl
def hortatorlaw7_RuleAll.T5 : Bool × List (List Nat × List Nat) := (true, [([], []), ([0], [0]), ([], []), ([2, 1], [2]), ([1, 3], [1, 3]), ([4, 3], [4]), ([5], [5]), ([5], [5]), ([6, 7, 5, 5], [5, 6, 7]), ([5], [5]), ([5], [5]), ([9, 10, 8, 5], [5, 9, 10]), ([8, 11, 5], [5, 8, 11]), ([5, 12], [5, 12]), ([13, 11], [13]), ([14], [14]), ([14], [14]), ([15, 16, 14, 14], [14, 15, 16]), ([17, 14], [14, 17]), ([14, 18], [14, 18]), ([19, 17], [19]), ([20], [20]), ([21, 20, 20], [20, 21]), ([20], [20]), ([23, 22, 20], [20, 23]), ([22, 24, 20], [20, 22, 24]), ([20, 25], [20, 25])])
def hortatorlaw7_RuleAll.B5 : List Nat := [0, 1, 0, 7, 15, 31, 63, 63, 255, 63, 63, 2047, 4095, 8191, 16383, 32767, 32767, 131071, 262143, 524287, 1048575, 2097151, 4194303, 2097151, 16777215, 33554431, 67108863]
theorem hortatorlaw7_RuleAll.tab5 : rtab .any (opsOf Tryz.f3 5) = hortatorlaw7_RuleAll.T5 := by kernel_rfl
theorem hortatorlaw7_RuleAll.bits5 : waitsOk hortatorlaw7_RuleAll.T5.2 hortatorlaw7_RuleAll.B5 = true := by kernel_rfl
def hortatorlaw7_RuleAll.T9 : Bool × List (List Nat × List Nat) := (true, [([], []), ([], []), ([0, 1], [0, 1]), ([], []), ([], []), ([3, 4, 2], [3, 4]), ([2, 5], [2, 5]), ([6, 5], [6]), ([7], [7]), ([7], [7]), ([8, 9, 7, 7], [7, 8, 9]), ([7], [7]), ([7], [7]), ([11, 12, 10, 7], [7, 11, 12]), ([10, 13, 7], [7, 10, 13]), ([7, 14], [7, 14])])
def hortatorlaw7_RuleAll.B9 : List Nat := [0, 0, 3, 0, 0, 31, 63, 127, 255, 255, 1023, 255, 255, 8191, 16383, 32767]
theorem hortatorlaw7_RuleAll.tab9 : rtab .any (opsOf Tryz.f3 9) = hortatorlaw7_RuleAll.T9 := by kernel_rfl
theorem hortatorlaw7_RuleAll.bits9 : waitsOk hortatorlaw7_RuleAll.T9.2 hortatorlaw7_RuleAll.B9 = true := by kernel_rfl
def hortatorlaw7_RuleAll.T18 : Bool × List (List Nat × List Nat) := (true, [([], []), ([], []), ([0, 1], [0, 1]), ([2], [2]), ([], []), ([], []), ([4, 5], [4, 5]), ([6], [6]), ([3, 7], [3, 7])])
def hortatorlaw7_RuleAll.B18 : List Nat := [0, 0, 3, 7, 0, 0, 48, 112, 255]
theorem hortatorlaw7_RuleAll.tab18 : rtab .any (opsOf Tryz.f3 18) = hortatorlaw7_RuleAll.T18 := by kernel_rfl
theorem hortatorlaw7_RuleAll.bits18 : waitsOk hortatorlaw7_RuleAll.T18.2 hortatorlaw7_RuleAll.B18 = true := by kernel_rfl
set_option maxHeartbeats 40000000 in
set_option maxRecDepth 100000 in
theorem hortatorlaw7_RuleAll.calls (k : Nat) (a0_0 : Int) (a0_1 : Int) (a0_2 : Int) (a0_3 : Int) (A0_4 : Option Addr) (c0_4 : Nat) (l0_4 : List Int) (a1_0 : Int) (a1_1 : Int) (a1_2 : Int) (A1_3 : Option Addr) (c1_3 : Nat) (l1_3 : List (S43)) (a2_0 : Int) (a2_1 : Int) (a2_2 : Int) (A2_3 : Option Addr) (c2_3 : Nat) (l2_3 : List (S43)) (a3_0 : Int) (a3_1 : Int) (a3_2 : Int) (a4_0 : Int) (a4_1 : Int) (a4_2 : Int) (a4_3 : Int) (r : Bool) (w : World) (hr0_4 : Kd.C (Kd.int .i64) w A0_4 l0_4.length l0_4) (hc0_4 : l0_4.length ≤ c0_4) (hr1_3 : Kd.C k43 w A1_3 l1_3.length l1_3) (hc1_3 : l1_3.length ≤ c1_3) (hr2_3 : Kd.C k43 w A2_3 l2_3.length l2_3) (hc2_3 : l2_3.length ≤ c2_3) (h : hortatorlaw7_RuleAll.f k a0_0 a0_1 a0_2 a0_3 l0_4 a1_0 a1_1 a1_2 l1_3 a2_0 a2_1 a2_2 l2_3 a3_0 a3_1 a3_2 a4_0 a4_1 a4_2 a4_3 = some r) :
  Calls Tryz.prog 3 #[.agg #[.int .i64 a0_0, .int .i64 a0_1, .int .i64 a0_2, .int .i64 a0_3, .slice A0_4 l0_4.length c0_4], .agg #[.int .i64 a1_0, .int .i64 a1_1, .int .i64 a1_2, .slice A1_3 l1_3.length c1_3], .agg #[.int .i64 a2_0, .int .i64 a2_1, .int .i64 a2_2, .slice A2_3 l2_3.length c2_3], .agg #[.int .i64 a3_0, .int .i64 a3_1, .int .i64 a3_2], .agg #[.int .i64 a4_0, .int .i64 a4_1, .int .i64 a4_2, .int .i64 a4_3]] w fun e w' => e = .returned (.bool r) ∧ Below w.heap.size w w' := by
 have hu24 := Tryz.underlying24
 have hu27 := Tryz.underlying27
 have hu29 := Tryz.underlying29
 have hu31 := Tryz.underlying31
 have HR0_4 := Aside0.mk hr0_4
 have HC0_4 := Aside0.mk hc0_4
 clear hr0_4 hc0_4
 have HR1_3 := Aside0.mk hr1_3
 have HC1_3 := Aside0.mk hc1_3
 clear hr1_3 hc1_3
 have HR2_3 := Aside0.mk hr2_3
 have HC2_3 := Aside0.mk hc2_3
 clear hr2_3 hc2_3
 have HB := Aside0.mk (Below.refl w.heap.size w)
 have H : ((begun7.f).bind fun t164 => (if t164 = true then ((hortatorlaw7_Config.f a0_0 a0_1 a0_2 a0_3 l0_4).bind fun bt165 => ((hortatorlaw7_Task.f a1_0 a1_1 a1_2 l1_3).bind fun bt172 => ((hortatorlaw7_Task.f a2_0 a2_1 a2_2 l2_3).bind fun bt178 => ((rule_Config.f bt165.1 bt165.2.1 bt165.2.2.1 bt165.2.2.2.1 bt165.2.2.2.2).bind fun t184 => ((hortatorref7_Config.f k bt165.1 bt165.2.1 bt165.2.2.1 bt165.2.2.2.1 bt165.2.2.2.2).bind fun t185 => (if (t184 != t185) = true then (hortatorlaw7_RuleAll.j0 k true bt165.1 bt165.2.1 bt165.2.2.1 bt165.2.2.2.1 bt165.2.2.2.2 bt172.1 bt172.2.1 bt172.2.2.1 bt172.2.2.2 a4_0 a4_1 a4_2 a4_3) else ((rule_Same.f k bt172.1 bt172.2.1 bt172.2.2.1 bt172.2.2.2 bt178.1 bt178.2.1 bt178.2.2.1 bt178.2.2.2).bind fun t186 => ((hortatorref7_Same.f k bt172.1 bt172.2.1 bt172.2.2.1 bt172.2.2.2 bt178.1 bt178.2.1 bt178.2.2.1 bt178.2.2.2).bind fun t187 => (if (t186 != t187) = true then (hortatorlaw7_RuleAll.j0 k true bt165.1 bt165.2.1 bt165.2.2.1 bt165.2.2.2.1 bt165.2.2.2.2 bt172.1 bt172.2.1 bt172.2.2.1 bt172.2.2.2 a4_0 a4_1 a4_2 a4_3) else ((rule_Same.f k bt172.1 bt172.2.1 bt172.2.2.1 bt172.2.2.2 bt172.1 bt172.2.1 bt172.2.2.1 bt172.2.2.2).bind fun t188 => (if t188 = true then ((rule_Load.f a3_0 a3_1 a3_2).bind fun t189 => ((hortatorref7_Load.f a3_0 a3_1 a3_2).bind fun t190 => (hortatorlaw7_RuleAll.j0 k (t189 != t190) bt165.1 bt165.2.1 bt165.2.2.1 bt165.2.2.2.1 bt165.2.2.2.2 bt172.1 bt172.2.1 bt172.2.2.1 bt172.2.2.2 a4_0 a4_1 a4_2 a4_3))) else (hortatorlaw7_RuleAll.j0 k true bt165.1 bt165.2.1 bt165.2.2.1 bt165.2.2.2.1 bt165.2.2.2.2 bt172.1 bt172.2.1 bt172.2.2.1 bt172.2.2.2 a4_0 a4_1 a4_2 a4_3)))))))))))) else (none))) = some r := h
 clear h
 replace H := Option.bind_eq_some_iff.mp H
 obtain ⟨t164, A60, H⟩ := H
 have A6 := Aside0.mk A60
 clear A60
 by_cases c7 : t164 = true
 ·subst c7
  have H1 : ((hortatorlaw7_Config.f a0_0 a0_1 a0_2 a0_3 l0_4).bind fun bt165 => ((hortatorlaw7_Task.f a1_0 a1_1 a1_2 l1_3).bind fun bt172 => ((hortatorlaw7_Task.f a2_0 a2_1 a2_2 l2_3).bind fun bt178 => ((rule_Config.f bt165.1 bt165.2.1 bt165.2.2.1 bt165.2.2.2.1 bt165.2.2.2.2).bind fun t184 => ((hortatorref7_Config.f k bt165.1 bt165.2.1 bt165.2.2.1 bt165.2.2.2.1 bt165.2.2.2.2).bind fun t185 => (if (t184 != t185) = true then (hortatorlaw7_RuleAll.j0 k true bt165.1 bt165.2.1 bt165.2.2.1 bt165.2.2.2.1 bt165.2.2.2.2 bt172.1 bt172.2.1 bt172.2.2.1 bt172.2.2.2 a4_0 a4_1 a4_2 a4_3) else ((rule_Same.f k bt172.1 bt172.2.1 bt172.2.2.1 bt172.2.2.2 bt178.1 bt178.2.1 bt178.2.2.1 bt178.2.2.2).bind fun t186 => ((hortatorref7_Same.f k bt172.1 bt172.2.1 bt172.2.2.1 bt172.2.2.2 bt178.1 bt178.2.1 bt178.2.2.1 bt178.2.2.2).bind fun t187 => (if (t186 != t187) = true then (hortatorlaw7_RuleAll.j0 k true bt165.1 bt165.2.1 bt165.2.2.1 bt165.2.2.2.1 bt165.2.2.2.2 bt172.1 bt172.2.1 bt172.2.2.1 bt172.2.2.2 a4_0 a4_1 a4_2 a4_3) else ((rule_Same.f k bt172.1 bt172.2.1 bt172.2.2.1 bt172.2.2.2 bt172.1 bt172.2.1 bt172.2.2.1 bt172.2.2.2).bind fun t188 => (if t188 = true then ((rule_Load.f a3_0 a3_1 a3_2).bind fun t189 => ((hortatorref7_Load.f a3_0 a3_1 a3_2).bind fun t190 => (hortatorlaw7_RuleAll.j0 k (t189 != t190) bt165.1 bt165.2.1 bt165.2.2.1 bt165.2.2.2.1 bt165.2.2.2.2 bt172.1 bt172.2.1 bt172.2.2.1 bt172.2.2.2 a4_0 a4_1 a4_2 a4_3))) else (hortatorlaw7_RuleAll.j0 k true bt165.1 bt165.2.1 bt165.2.2.1 bt165.2.2.2.1 bt165.2.2.2.2 bt172.1 bt172.2.1 bt172.2.2.1 bt172.2.2.2 a4_0 a4_1 a4_2 a4_3)))))))))))) = some r := by rw [if_pos rfl] at H; exact H
  clear H
  have H := H1
  clear H1
  replace H := Option.bind_eq_some_iff.mp H
  obtain ⟨⟨t165, t166, t167, t168, t169⟩, A80, H⟩ := H
  have A8 := Aside0.mk A80
  clear A80
  replace H := Option.bind_eq_some_iff.mp H
  obtain ⟨⟨t172, t173, t174, t175⟩, A90, H⟩ := H
  have A9 := Aside0.mk A90
  clear A90
  replace H := Option.bind_eq_some_iff.mp H
  obtain ⟨⟨t178, t179, t180, t181⟩, A100, H⟩ := H
  have A10 := Aside0.mk A100
  clear A100
  have HC11 := Aside0.mk H
  clear H
  go_enter Tryz.func3, Tryz.ntmps3
  try go_wp2_with (first | ((with_reducible refine gate_dst (N := 5) rfl ?_); (try (refine gate_guard (by rfl) ?_; dsimp only)); refine box_event ?hg (N := 5) ?hd (cs := #[.int .i64 a0_0, .int .i64 a0_1, .int .i64 a0_2, .int .i64 a0_3, .slice A0_4 l0_4.length c0_4]) (t := 24) ?hr ?_; (case hd => rfl); (case hg => rfl); (case hr => (go_simp; done)); intro gb159 hg w12 hbox hb; have n0_ := Aside0.mk (below_step (by repeat ((with_reducible (exact HB.out)))) hb); have n1_ := Aside0.mk (hbox); have n2_ := Aside0.mk ((by rw [hg]; exact (below_size (by repeat ((with_reducible (exact HB.out))))) : w.heap.size ≤ gb159)); have n3_ := Aside0.mk ((by rw [hg]; exact (below_size (by repeat ((with_reducible (exact HB.out))))) : w.heap.size ≤ gb159)); clear HB; have HB := n0_; have BK159 := n1_; have GW159 := n2_; have GE159 := n3_; clear n0_ n1_ n2_ n3_; clear hb hbox hg) | ((with_reducible refine gate_dst (N := 6) rfl ?_); (try (refine gate_guard (by rfl) ?_; dsimp only)); refine box_event ?hg (N := 6) ?hd (cs := #[.int .i64 a1_0, .int .i64 a1_1, .int .i64 a1_2, .slice A1_3 l1_3.length c1_3]) (t := 27) ?hr ?_; (case hd => rfl); (case hg => rfl); (case hr => (go_simp; done)); intro gb160 hg w13 hbox hb; have n0_ := Aside0.mk (blk_below (g := gb159) (o := .cells #[.int .i64 a0_0, .int .i64 a0_1, .int .i64 a0_2, .int .i64 a0_3, .slice A0_4 l0_4.length c0_4] 24 (0, 0)) (by exact BK159.out) hb); have n1_ := Aside0.mk (below_step (by repeat ((with_reducible (exact HB.out)))) hb); have n2_ := Aside0.mk (hbox); have n3_ := Aside0.mk ((by rw [hg]; exact (below_size (by repeat ((with_reducible (exact HB.out))))) : w.heap.size ≤ gb160)); have n4_ := Aside0.mk ((by rw [hg]; exact (below_size (by repeat ((with_reducible (exact HB.out))))) : w.heap.size ≤ gb160)); have n5_ := Aside0.mk ((by rw [hg]; exact Nat.ne_of_lt (blk_lt (g := gb159) (o := .cells #[.int .i64 a0_0, .int .i64 a0_1, .int .i64 a0_2, .int .i64 a0_3, .slice A0_4 l0_4.length c0_4] 24 (0, 0)) (by exact BK159.out)) : gb159 ≠ gb160)); have n6_ := Aside0.mk ((by rw [hg]; exact Nat.ne_of_gt (blk_lt (g := gb159) (o := .cells #[.int .i64 a0_0, .int .i64 a0_1, .int .i64 a0_2, .int .i64 a0_3, .slice A0_4 l0_4.length c0_4] 24 (0, 0)) (by exact BK159.out)) : gb160 ≠ gb159)); clear BK159; clear HB; have BK159 := n0_; have HB := n1_; have BK160 := n2_; have GW160 := n3_; have GE160 := n4_; have NB159_160 := n5_; have NB160_159 := n6_; clear n0_ n1_ n2_ n3_ n4_ n5_ n6_; clear hb hbox hg) | ((with_reducible refine gate_dst (N := 7) rfl ?_); (try (refine gate_guard (by rfl) ?_; dsimp only)); refine box_event ?hg (N := 7) ?hd (cs := #[.int .i64 a2_0, .int .i64 a2_1, .int .i64 a2_2, .slice A2_3 l2_3.length c2_3]) (t := 27) ?hr ?_; (case hd => rfl); (case hg => rfl); (case hr => (go_simp; done)); intro gb161 hg w14 hbox hb; have n0_ := Aside0.mk (blk_below (g := gb159) (o := .cells #[.int .i64 a0_0, .int .i64 a0_1, .int .i64 a0_2, .int .i64 a0_3, .slice A0_4 l0_4.length c0_4] 24 (0, 0)) (by exact BK159.out) hb); have n1_ := Aside0.mk (blk_below (g := gb160) (o := .cells #[.int .i64 a1_0, .int .i64 a1_1, .int .i64 a1_2, .slice A1_3 l1_3.length c1_3] 27 (0, 0)) (by exact BK160.out) hb); have n2_ := Aside0.mk (below_step (by repeat ((with_reducible (exact HB.out)))) hb); have n3_ := Aside0.mk (hbox); have n4_ := Aside0.mk ((by rw [hg]; exact (below_size (by repeat ((with_reducible (exact HB.out))))) : w.heap.size ≤ gb161)); have n5_ := Aside0.mk ((by rw [hg]; exact (below_size (by repeat ((with_reducible (exact HB.out))))) : w.heap.size ≤ gb161)); have n6_ := Aside0.mk ((by rw [hg]; exact Nat.ne_of_lt (blk_lt (g := gb159) (o := .cells #[.int .i64 a0_0, .int .i64 a0_1, .int .i64 a0_2, .int .i64 a0_3, .slice A0_4 l0_4.length c0_4] 24 (0, 0)) (by exact BK159.out)) : gb159 ≠ gb161)); have n7_ := Aside0.mk ((by rw [hg]; exact Nat.ne_of_gt (blk_lt (g := gb159) (o := .cells #[.int .i64 a0_0, .int .i64 a0_1, .int .i64 a0_2, .int .i64 a0_3, .slice A0_4 l0_4.length c0_4] 24 (0, 0)) (by exact BK159.out)) : gb161 ≠ gb159)); have n8_ := Aside0.mk ((by rw [hg]; exact Nat.ne_of_lt (blk_lt (g := gb160) (o := .cells #[.int .i64 a1_0, .int .i64 a1_1, .int .i64 a1_2, .slice A1_3 l1_3.length c1_3] 27 (0, 0)) (by exact BK160.out)) : gb160 ≠ gb161)); have n9_ := Aside0.mk ((by rw [hg]; exact Nat.ne_of_gt (blk_lt (g := gb160) (o := .cells #[.int .i64 a1_0, .int .i64 a1_1, .int .i64 a1_2, .slice A1_3 l1_3.length c1_3] 27 (0, 0)) (by exact BK160.out)) : gb161 ≠ gb160)); clear BK159; clear BK160; clear HB; have BK159 := n0_; have BK160 := n1_; have HB := n2_; have BK161 := n3_; have GW161 := n4_; have GE161 := n5_; have NB159_161 := n6_; have NB161_159 := n7_; have NB160_161 := n8_; have NB161_160 := n9_; clear n0_ n1_ n2_ n3_ n4_ n5_ n6_ n7_ n8_ n9_; clear hb hbox hg) | ((with_reducible refine gate_dst (N := 8) rfl ?_); (try (refine gate_guard (by rfl) ?_; dsimp only)); refine box_event ?hg (N := 8) ?hd (cs := #[.int .i64 a3_0, .int .i64 a3_1, .int .i64 a3_2]) (t := 29) ?hr ?_; (case hd => rfl); (case hg => rfl); (case hr => (go_simp; done)); intro gb162 hg w15 hbox hb; have n0_ := Aside0.mk (blk_below (g := gb159) (o := .cells #[.int .i64 a0_0, .int .i64 a0_1, .int .i64 a0_2, .int .i64 a0_3, .slice A0_4 l0_4.length c0_4] 24 (0, 0)) (by exact BK159.out) hb); have n1_ := Aside0.mk (blk_below (g := gb160) (o := .cells #[.int .i64 a1_0, .int .i64 a1_1, .int .i64 a1_2, .slice A1_3 l1_3.length c1_3] 27 (0, 0)) (by exact BK160.out) hb); have n2_ := Aside0.mk (blk_below (g := gb161) (o := .cells #[.int .i64 a2_0, .int .i64 a2_1, .int .i64 a2_2, .slice A2_3 l2_3.length c2_3] 27 (0, 0)) (by exact BK161.out) hb); have n3_ := Aside0.mk (below_step (by repeat ((with_reducible (exact HB.out)))) hb); have n4_ := Aside0.mk (hbox); have n5_ := Aside0.mk ((by rw [hg]; exact (below_size (by repeat ((with_reducible (exact HB.out))))) : w.heap.size ≤ gb162)); have n6_ := Aside0.mk ((by rw [hg]; exact (below_size (by repeat ((with_reducible (exact HB.out))))) : w.heap.size ≤ gb162)); have n7_ := Aside0.mk ((by rw [hg]; exact Nat.ne_of_lt (blk_lt (g := gb159) (o := .cells #[.int .i64 a0_0, .int .i64 a0_1, .int .i64 a0_2, .int .i64 a0_3, .slice A0_4 l0_4.length c0_4] 24 (0, 0)) (by exact BK159.out)) : gb159 ≠ gb162)); have n8_ := Aside0.mk ((by rw [hg]; exact Nat.ne_of_gt (blk_lt (g := gb159) (o := .cells #[.int .i64 a0_0, .int .i64 a0_1, .int .i64 a0_2, .int .i64 a0_3, .slice A0_4 l0_4.length c0_4] 24 (0, 0)) (by exact BK159.out)) : gb162 ≠ gb159)); have n9_ := Aside0.mk ((by rw [hg]; exact Nat.ne_of_lt (blk_lt (g := gb160) (o := .cells #[.int .i64 a1_0, .int .i64 a1_1, .int .i64 a1_2, .slice A1_3 l1_3.length c1_3] 27 (0, 0)) (by exact BK160.out)) : gb160 ≠ gb162)); have n10_ := Aside0.mk ((by rw [hg]; exact Nat.ne_of_gt (blk_lt (g := gb160) (o := .cells #[.int .i64 a1_0, .int .i64 a1_1, .int .i64 a1_2, .slice A1_3 l1_3.length c1_3] 27 (0, 0)) (by exact BK160.out)) : gb162 ≠ gb160)); have n11_ := Aside0.mk ((by rw [hg]; exact Nat.ne_of_lt (blk_lt (g := gb161) (o := .cells #[.int .i64 a2_0, .int .i64 a2_1, .int .i64 a2_2, .slice A2_3 l2_3.length c2_3] 27 (0, 0)) (by exact BK161.out)) : gb161 ≠ gb162)); have n12_ := Aside0.mk ((by rw [hg]; exact Nat.ne_of_gt (blk_lt (g := gb161) (o := .cells #[.int .i64 a2_0, .int .i64 a2_1, .int .i64 a2_2, .slice A2_3 l2_3.length c2_3] 27 (0, 0)) (by exact BK161.out)) : gb162 ≠ gb161)); clear BK159; clear BK160; clear BK161; clear HB; have BK159 := n0_; have BK160 := n1_; have BK161 := n2_; have HB := n3_; have BK162 := n4_; have GW162 := n5_; have GE162 := n6_; have NB159_162 := n7_; have NB162_159 := n8_; have NB160_162 := n9_; have NB162_160 := n10_; have NB161_162 := n11_; have NB162_161 := n12_; clear n0_ n1_ n2_ n3_ n4_ n5_ n6_ n7_ n8_ n9_ n10_ n11_ n12_; clear hb hbox hg) | ((with_reducible refine gate_dst (N := 9) rfl ?_); (try (refine gate_guard (by rfl) ?_; dsimp only)); refine box_event ?hg (N := 9) ?hd (cs := #[.int .i64 a4_0, .int .i64 a4_1, .int .i64 a4_2, .int .i64 a4_3]) (t := 31) ?hr ?_; (case hd => rfl); (case hg => rfl); (case hr => (go_simp; done)); intro gb163 hg w16 hbox hb; have n0_ := Aside0.mk (blk_below (g := gb159) (o := .cells #[.int .i64 a0_0, .int .i64 a0_1, .int .i64 a0_2, .int .i64 a0_3, .slice A0_4 l0_4.length c0_4] 24 (0, 0)) (by exact BK159.out) hb); have n1_ := Aside0.mk (blk_below (g := gb160) (o := .cells #[.int .i64 a1_0, .int .i64 a1_1, .int .i64 a1_2, .slice A1_3 l1_3.length c1_3] 27 (0, 0)) (by exact BK160.out) hb); have n2_ := Aside0.mk (blk_below (g := gb161) (o := .cells #[.int .i64 a2_0, .int .i64 a2_1, .int .i64 a2_2, .slice A2_3 l2_3.length c2_3] 27 (0, 0)) (by exact BK161.out) hb); have n3_ := Aside0.mk (blk_below (g := gb162) (o := .cells #[.int .i64 a3_0, .int .i64 a3_1, .int .i64 a3_2] 29 (0, 0)) (by exact BK162.out) hb); have n4_ := Aside0.mk (below_step (by repeat ((with_reducible (exact HB.out)))) hb); have n5_ := Aside0.mk (hbox); have n6_ := Aside0.mk ((by rw [hg]; exact (below_size (by repeat ((with_reducible (exact HB.out))))) : w.heap.size ≤ gb163)); have n7_ := Aside0.mk ((by rw [hg]; exact (below_size (by repeat ((with_reducible (exact HB.out))))) : w.heap.size ≤ gb163)); have n8_ := Aside0.mk ((by rw [hg]; exact Nat.ne_of_lt (blk_lt (g := gb159) (o := .cells #[.int .i64 a0_0, .int .i64 a0_1, .int .i64 a0_2, .int .i64 a0_3, .slice A0_4 l0_4.length c0_4] 24 (0, 0)) (by exact BK159.out)) : gb159 ≠ gb163)); have n9_ := Aside0.mk ((by rw [hg]; exact Nat.ne_of_gt (blk_lt (g := gb159) (o := .cells #[.int .i64 a0_0, .int .i64 a0_1, .int .i64 a0_2, .int .i64 a0_3, .slice A0_4 l0_4.length c0_4] 24 (0, 0)) (by exact BK159.out)) : gb163 ≠ gb159)); have n10_ := Aside0.mk ((by rw [hg]; exact Nat.ne_of_lt (blk_lt (g := gb160) (o := .cells #[.int .i64 a1_0, .int .i64 a1_1, .int .i64 a1_2, .slice A1_3 l1_3.length c1_3] 27 (0, 0)) (by exact BK160.out)) : gb160 ≠ gb163)); have n11_ := Aside0.mk ((by rw [hg]; exact Nat.ne_of_gt (blk_lt (g := gb160) (o := .cells #[.int .i64 a1_0, .int .i64 a1_1, .int .i64 a1_2, .slice A1_3 l1_3.length c1_3] 27 (0, 0)) (by exact BK160.out)) : gb163 ≠ gb160)); have n12_ := Aside0.mk ((by rw [hg]; exact Nat.ne_of_lt (blk_lt (g := gb161) (o := .cells #[.int .i64 a2_0, .int .i64 a2_1, .int .i64 a2_2, .slice A2_3 l2_3.length c2_3] 27 (0, 0)) (by exact BK161.out)) : gb161 ≠ gb163)); have n13_ := Aside0.mk ((by rw [hg]; exact Nat.ne_of_gt (blk_lt (g := gb161) (o := .cells #[.int .i64 a2_0, .int .i64 a2_1, .int .i64 a2_2, .slice A2_3 l2_3.length c2_3] 27 (0, 0)) (by exact BK161.out)) : gb163 ≠ gb161)); have n14_ := Aside0.mk ((by rw [hg]; exact Nat.ne_of_lt (blk_lt (g := gb162) (o := .cells #[.int .i64 a3_0, .int .i64 a3_1, .int .i64 a3_2] 29 (0, 0)) (by exact BK162.out)) : gb162 ≠ gb163)); have n15_ := Aside0.mk ((by rw [hg]; exact Nat.ne_of_gt (blk_lt (g := gb162) (o := .cells #[.int .i64 a3_0, .int .i64 a3_1, .int .i64 a3_2] 29 (0, 0)) (by exact BK162.out)) : gb163 ≠ gb162)); clear BK159; clear BK160; clear BK161; clear BK162; clear HB; have BK159 := n0_; have BK160 := n1_; have BK161 := n2_; have BK162 := n3_; have HB := n4_; have BK163 := n5_; have GW163 := n6_; have GE163 := n7_; have NB159_163 := n8_; have NB163_159 := n9_; have NB160_163 := n10_; have NB163_160 := n11_; have NB161_163 := n12_; have NB163_161 := n13_; have NB162_163 := n14_; have NB163_162 := n15_; clear n0_ n1_ n2_ n3_ n4_ n5_ n6_ n7_ n8_ n9_ n10_ n11_ n12_ n13_ n14_ n15_; clear hb hbox hg) | ((with_reducible refine gate_callee (f := 13) rfl ?_); refine goesL_ (some 15) rfl rfl Tryz.func13 (by kernel_rfl) rfl #[] rfl (by (try simp only [List.map_toArray, List.map_cons, List.map_nil]); (done)) ?_; (with_reducible refine (begun7.calls  true _ A6.out).mono ?_); rintro e w17 ⟨rfl, hb⟩; refine ⟨_, rfl, ?_⟩; have n0_ := Aside0.mk (blk_below (g := gb159) (o := .cells #[.int .i64 a0_0, .int .i64 a0_1, .int .i64 a0_2, .int .i64 a0_3, .slice A0_4 l0_4.length c0_4] 24 (0, 0)) (by exact BK159.out) hb); have n1_ := Aside0.mk (blk_below (g := gb160) (o := .cells #[.int .i64 a1_0, .int .i64 a1_1, .int .i64 a1_2, .slice A1_3 l1_3.length c1_3] 27 (0, 0)) (by exact BK160.out) hb); have n2_ := Aside0.mk (blk_below (g := gb161) (o := .cells #[.int .i64 a2_0, .int .i64 a2_1, .int .i64 a2_2, .slice A2_3 l2_3.length c2_3] 27 (0, 0)) (by exact BK161.out) hb); have n3_ := Aside0.mk (blk_below (g := gb162) (o := .cells #[.int .i64 a3_0, .int .i64 a3_1, .int .i64 a3_2] 29 (0, 0)) (by exact BK162.out) hb); have n4_ := Aside0.mk (blk_below (g := gb163) (o := .cells #[.int .i64 a4_0, .int .i64 a4_1, .int .i64 a4_2, .int .i64 a4_3] 31 (0, 0)) (by exact BK163.out) hb); have n5_ := Aside0.mk (below_step (by repeat ((with_reducible (exact HB.out)))) hb); clear BK159; clear BK160; clear BK161; clear BK162; clear BK163; clear HB; have BK159 := n0_; have BK160 := n1_; have BK161 := n2_; have BK162 := n3_; have BK163 := n4_; have HB := n5_; clear n0_ n1_ n2_ n3_ n4_ n5_; (try clear hb); (try clear hb2); (try clear hk); (try clear hi)))
  have n0_ := Aside0.mk (blk_drew BK159.out)
  have n1_ := Aside0.mk (blk_drew BK160.out)
  have n2_ := Aside0.mk (blk_drew BK161.out)
  have n3_ := Aside0.mk (blk_drew BK162.out)
  have n4_ := Aside0.mk (blk_drew BK163.out)
  have n5_ := Aside0.mk (below_drew1 HB.out)
  clear BK159
  clear BK160
  clear BK161
  clear BK162
  clear BK163
  clear HB
  have BK159 := n0_
  have BK160 := n1_
  have BK161 := n2_
  have BK162 := n3_
  have BK163 := n4_
  have HB := n5_
  clear n0_ n1_ n2_ n3_ n4_ n5_
  refine start_ (n := 9) (S := fun w' => w'.cell? ⟨gb159, 0, none⟩ = some (.int .i64 a0_0) ∧ w'.cell? ⟨gb159, 1, none⟩ = some (.int .i64 a0_1) ∧ w'.cell? ⟨gb159, 2, none⟩ = some (.int .i64 a0_2) ∧ w'.cell? ⟨gb159, 3, none⟩ = some (.int .i64 a0_3) ∧ w'.cell? ⟨gb159, 4, none⟩ = some (.slice A0_4 l0_4.length c0_4) ∧ w'.cell? ⟨gb160, 0, none⟩ = some (.int .i64 a1_0) ∧ w'.cell? ⟨gb160, 1, none⟩ = some (.int .i64 a1_1) ∧ w'.cell? ⟨gb160, 2, none⟩ = some (.int .i64 a1_2) ∧ w'.cell? ⟨gb160, 3, none⟩ = some (.slice A1_3 l1_3.length c1_3) ∧ w'.cell? ⟨gb161, 0, none⟩ = some (.int .i64 a2_0) ∧ w'.cell? ⟨gb161, 1, none⟩ = some (.int .i64 a2_1) ∧ w'.cell? ⟨gb161, 2, none⟩ = some (.int .i64 a2_2) ∧ w'.cell? ⟨gb161, 3, none⟩ = some (.slice A2_3 l2_3.length c2_3)) (ds := [6, 7, 8]) #[false, false, false, false, false, false, false, false, false] (by kernel_rfl) rfl rfl ⟨(blk_cell BK159.out 0).trans rfl, (blk_cell BK159.out 1).trans rfl, (blk_cell BK159.out 2).trans rfl, (blk_cell BK159.out 3).trans rfl, (blk_cell BK159.out 4).trans rfl, (blk_cell BK160.out 0).trans rfl, (blk_cell BK160.out 1).trans rfl, (blk_cell BK160.out 2).trans rfl, (blk_cell BK160.out 3).trans rfl, (blk_cell BK161.out 0).trans rfl, (blk_cell BK161.out 1).trans rfl, (blk_cell BK161.out 2).trans rfl, (blk_cell BK161.out 3).trans rfl⟩ (fun hHeld => ?_); refine with_tabW hortatorlaw7_RuleAll.tab4 hortatorlaw7_RuleAll.bits4 (fun HT_ HW_ => ?_)
  generalize w17.drew = w18 at BK159 BK160 BK161 BK162 BK163 HB hHeld ⊢
  refine take_ (i := 0) (N := some 18) (v := ?_) (a' := ?_) #[true, false, false, false, false, false, false, false, false] rfl rfl (take_ofW HT_.out HW_.out (by kernel_rfl)) (fun _ _ _ h => h) (Or.inl ⟨by rfl, ?_⟩) hHeld ?_ ?_
  rotate_left
  ·rintro w' ⟨s0, s1, s2, s3, s4, s5, s6, s7, s8, s9, s10, s11, s12⟩
   go_simp
   with_reducible rfl
  rotate_left
  ·simp only [Act.put, List.setIfInBounds_toArray, List.set_cons_zero, List.set_cons_succ, i64_w, i32_w]
   rfl
  refine take_ (i := 2) (N := some 20) (v := ?_) (a' := ?_) #[true, false, true, false, false, false, false, false, false] rfl rfl (take_ofW HT_.out HW_.out (by kernel_rfl)) (fun _ _ _ h => h) (Or.inl ⟨by rfl, ?_⟩) hHeld ?_ ?_
  rotate_left
  ·rintro w' ⟨s0, s1, s2, s3, s4, s5, s6, s7, s8, s9, s10, s11, s12⟩
   go_simp
   with_reducible rfl
  rotate_left
  ·simp only [Act.put, List.setIfInBounds_toArray, List.set_cons_zero, List.set_cons_succ, i64_w, i32_w]
   rfl
  refine take_ (i := 4) (N := some 22) (v := ?_) (a' := ?_) #[true, false, true, false, true, false, false, false, false] rfl rfl (take_ofW HT_.out HW_.out (by kernel_rfl)) (fun _ _ _ h => h) (Or.inl ⟨by rfl, ?_⟩) hHeld ?_ ?_
  rotate_left
  ·rintro w' ⟨s0, s1, s2, s3, s4, s5, s6, s7, s8, s9, s10, s11, s12⟩
   go_simp
   with_reducible rfl
  rotate_left
  ·simp only [Act.put, List.setIfInBounds_toArray, List.set_cons_zero, List.set_cons_succ, i64_w, i32_w]
   rfl
  refine one_ (i := 1) (N := some 19) #[true, true, true, false, true, false, false, false, false] rfl rfl (one_of HT_.out (by kernel_rfl)) (by decide) (fun K hK => ?_)
  refine goes_ Tryz.func14 (by kernel_rfl) rfl #[.agg #[.int .i64 a0_0, .int .i64 a0_1, .int .i64 a0_2, .int .i64 a0_3, .slice A0_4 l0_4.length c0_4]] (by rfl) rfl rfl (by (try simp only [List.map_toArray, List.map_cons, List.map_nil]); (rfl)) ?_
  with_reducible refine (hortatorlaw7_Config.calls a0_0 a0_1 a0_2 a0_3 _ _ l0_4 t165 t166 t167 t168 t169 _ ?side1 ?side2 A8.out).mono ?_
  (case side1 => repeat ((exact (Kd.C_below HR0_4.out HB.out))))
  (case side2 => exact HC0_4.out)
  rintro e w19 ⟨v170, rfl, ho0, hb⟩
  refine ⟨_, rfl, ?_⟩
  have n0_ := Aside0.mk (Kd.R_lower ho0 (below_size (by repeat ((with_reducible (exact HB.out))))))
  have n1_ := Aside0.mk (blk_below (g := gb159) (o := .cells #[.int .i64 a0_0, .int .i64 a0_1, .int .i64 a0_2, .int .i64 a0_3, .slice A0_4 l0_4.length c0_4] 24 (0, 0)) (by exact BK159.out) hb)
  have n2_ := Aside0.mk (blk_below (g := gb160) (o := .cells #[.int .i64 a1_0, .int .i64 a1_1, .int .i64 a1_2, .slice A1_3 l1_3.length c1_3] 27 (0, 0)) (by exact BK160.out) hb)
  have n3_ := Aside0.mk (blk_below (g := gb161) (o := .cells #[.int .i64 a2_0, .int .i64 a2_1, .int .i64 a2_2, .slice A2_3 l2_3.length c2_3] 27 (0, 0)) (by exact BK161.out) hb)
  have n4_ := Aside0.mk (blk_below (g := gb162) (o := .cells #[.int .i64 a3_0, .int .i64 a3_1, .int .i64 a3_2] 29 (0, 0)) (by exact BK162.out) hb)
  have n5_ := Aside0.mk (blk_below (g := gb163) (o := .cells #[.int .i64 a4_0, .int .i64 a4_1, .int .i64 a4_2, .int .i64 a4_3] 31 (0, 0)) (by exact BK163.out) hb)
  have n6_ := Aside0.mk (below_step (by repeat ((with_reducible (exact HB.out)))) hb)
  clear BK159
  clear BK160
  clear BK161
  clear BK162
  clear BK163
  clear HB
  have HO171 := n0_
  have BK159 := n1_
  have BK160 := n2_
  have BK161 := n3_
  have BK162 := n4_
  have BK163 := n5_
  have HB := n6_
  clear n0_ n1_ n2_ n3_ n4_ n5_ n6_
  (try clear hb)
  (try clear hb2)
  (try clear hk)
  (try clear hi)
  (try clear ho0)
  refine hK.out _ _ ⟨(blk_cell BK159.out 0).trans rfl, (blk_cell BK159.out 1).trans rfl, (blk_cell BK159.out 2).trans rfl, (blk_cell BK159.out 3).trans rfl, (blk_cell BK159.out 4).trans rfl, (blk_cell BK160.out 0).trans rfl, (blk_cell BK160.out 1).trans rfl, (blk_cell BK160.out 2).trans rfl, (blk_cell BK160.out 3).trans rfl, (blk_cell BK161.out 0).trans rfl, (blk_cell BK161.out 1).trans rfl, (blk_cell BK161.out 2).trans rfl, (blk_cell BK161.out 3).trans rfl⟩ (fun hHeld => ?_)
  clear hK K
  refine norm_ (a' := ?_) ?_ ?_
  rotate_left
  ·show Act.put _ (some 19) _ = _
   simp only [Act.put, List.setIfInBounds_toArray, List.set_cons_zero, List.set_cons_succ, i64_w, i32_w]
   rfl
  refine one_ (i := 3) (N := some 21) #[true, true, true, true, true, false, false, false, false] rfl rfl (one_of HT_.out (by kernel_rfl)) (by decide) (fun K hK => ?_)
  refine goes_ Tryz.func15 (by kernel_rfl) rfl #[.agg #[.int .i64 a1_0, .int .i64 a1_1, .int .i64 a1_2, .slice A1_3 l1_3.length c1_3]] (by rfl) rfl rfl (by (try simp only [List.map_toArray, List.map_cons, List.map_nil]); (rfl)) ?_
  with_reducible refine (hortatorlaw7_Task.calls a1_0 a1_1 a1_2 _ _ l1_3 t172 t173 t174 t175 _ ?side1 ?side2 A9.out).mono ?_
  (case side1 => repeat ((exact (Kd.C_below HR1_3.out HB.out))))
  (case side2 => exact HC1_3.out)
  rintro e w20 ⟨v176, rfl, ho0, hb⟩
  refine ⟨_, rfl, ?_⟩
  have n0_ := Aside0.mk (Kd.R_below (by exact HO171.out) hb)
  have n1_ := Aside0.mk (Kd.R_lower ho0 (below_size (by repeat ((with_reducible (exact HB.out))))))
  have n2_ := Aside0.mk (blk_below (g := gb159) (o := .cells #[.int .i64 a0_0, .int .i64 a0_1, .int .i64 a0_2, .int .i64 a0_3, .slice A0_4 l0_4.length c0_4] 24 (0, 0)) (by exact BK159.out) hb)
  have n3_ := Aside0.mk (blk_below (g := gb160) (o := .cells #[.int .i64 a1_0, .int .i64 a1_1, .int .i64 a1_2, .slice A1_3 l1_3.length c1_3] 27 (0, 0)) (by exact BK160.out) hb)
  have n4_ := Aside0.mk (blk_below (g := gb161) (o := .cells #[.int .i64 a2_0, .int .i64 a2_1, .int .i64 a2_2, .slice A2_3 l2_3.length c2_3] 27 (0, 0)) (by exact BK161.out) hb)
  have n5_ := Aside0.mk (blk_below (g := gb162) (o := .cells #[.int .i64 a3_0, .int .i64 a3_1, .int .i64 a3_2] 29 (0, 0)) (by exact BK162.out) hb)
  have n6_ := Aside0.mk (blk_below (g := gb163) (o := .cells #[.int .i64 a4_0, .int .i64 a4_1, .int .i64 a4_2, .int .i64 a4_3] 31 (0, 0)) (by exact BK163.out) hb)
  have n7_ := Aside0.mk (below_step (by repeat ((with_reducible (exact HB.out)))) hb)
  clear HO171
  clear BK159
  clear BK160
  clear BK161
  clear BK162
  clear BK163
  clear HB
  have HO171 := n0_
  have HO177 := n1_
  have BK159 := n2_
  have BK160 := n3_
  have BK161 := n4_
  have BK162 := n5_
  have BK163 := n6_
  have HB := n7_
  clear n0_ n1_ n2_ n3_ n4_ n5_ n6_ n7_
  (try clear hb)
  (try clear hb2)
  (try clear hk)
  (try clear hi)
  (try clear ho0)
  refine hK.out _ _ ⟨(blk_cell BK159.out 0).trans rfl, (blk_cell BK159.out 1).trans rfl, (blk_cell BK159.out 2).trans rfl, (blk_cell BK159.out 3).trans rfl, (blk_cell BK159.out 4).trans rfl, (blk_cell BK160.out 0).trans rfl, (blk_cell BK160.out 1).trans rfl, (blk_cell BK160.out 2).trans rfl, (blk_cell BK160.out 3).trans rfl, (blk_cell BK161.out 0).trans rfl, (blk_cell BK161.out 1).trans rfl, (blk_cell BK161.out 2).trans rfl, (blk_cell BK161.out 3).trans rfl⟩ (fun hHeld => ?_)
  clear hK K
  refine norm_ (a' := ?_) ?_ ?_
  rotate_left
  ·show Act.put _ (some 21) _ = _
   simp only [Act.put, List.setIfInBounds_toArray, List.set_cons_zero, List.set_cons_succ, i64_w, i32_w]
   rfl
  refine one_ (i := 5) (N := some 23) #[true, true, true, true, true, true, false, false, false] rfl rfl (one_of HT_.out (by kernel_rfl)) (by decide) (fun K hK => ?_)
  refine goes_ Tryz.func15 (by kernel_rfl) rfl #[.agg #[.int .i64 a2_0, .int .i64 a2_1, .int .i64 a2_2, .slice A2_3 l2_3.length c2_3]] (by rfl) rfl rfl (by (try simp only [List.map_toArray, List.map_cons, List.map_nil]); (rfl)) ?_
  with_reducible refine (hortatorlaw7_Task.calls a2_0 a2_1 a2_2 _ _ l2_3 t178 t179 t180 t181 _ ?side1 ?side2 A10.out).mono ?_
  (case side1 => repeat ((exact (Kd.C_below HR2_3.out HB.out))))
  (case side2 => exact HC2_3.out)
  rintro e w21 ⟨v182, rfl, ho0, hb⟩
  refine ⟨_, rfl, ?_⟩
  have n0_ := Aside0.mk (Kd.R_below (by exact HO171.out) hb)
  have n1_ := Aside0.mk (Kd.R_elder' (by exact HO177.out) (Kd.R_base ho0) hb)
  have n2_ := Aside0.mk (Kd.R_lower (Kd.R_new' ho0 (Kd.R_lt (by exact HO177.out))) (below_size (by repeat ((with_reducible (exact HB.out))))))
  have n3_ := Aside0.mk (blk_below (g := gb159) (o := .cells #[.int .i64 a0_0, .int .i64 a0_1, .int .i64 a0_2, .int .i64 a0_3, .slice A0_4 l0_4.length c0_4] 24 (0, 0)) (by exact BK159.out) hb)
  have n4_ := Aside0.mk (blk_below (g := gb160) (o := .cells #[.int .i64 a1_0, .int .i64 a1_1, .int .i64 a1_2, .slice A1_3 l1_3.length c1_3] 27 (0, 0)) (by exact BK160.out) hb)
  have n5_ := Aside0.mk (blk_below (g := gb161) (o := .cells #[.int .i64 a2_0, .int .i64 a2_1, .int .i64 a2_2, .slice A2_3 l2_3.length c2_3] 27 (0, 0)) (by exact BK161.out) hb)
  have n6_ := Aside0.mk (blk_below (g := gb162) (o := .cells #[.int .i64 a3_0, .int .i64 a3_1, .int .i64 a3_2] 29 (0, 0)) (by exact BK162.out) hb)
  have n7_ := Aside0.mk (blk_below (g := gb163) (o := .cells #[.int .i64 a4_0, .int .i64 a4_1, .int .i64 a4_2, .int .i64 a4_3] 31 (0, 0)) (by exact BK163.out) hb)
  have n8_ := Aside0.mk (below_step (by repeat ((with_reducible (exact HB.out)))) hb)
  clear HO171
  clear HO177
  clear BK159
  clear BK160
  clear BK161
  clear BK162
  clear BK163
  clear HB
  have HO171 := n0_
  have HO177 := n1_
  have HO183 := n2_
  have BK159 := n3_
  have BK160 := n4_
  have BK161 := n5_
  have BK162 := n6_
  have BK163 := n7_
  have HB := n8_
  clear n0_ n1_ n2_ n3_ n4_ n5_ n6_ n7_ n8_
  (try clear hb)
  (try clear hb2)
  (try clear hk)
  (try clear hi)
  (try clear ho0)
  obtain ⟨Ao26, co26, eo26⟩ := Kd.R_slice HO171.out
  ((subst eo26))
  obtain ⟨Ao31, co31, eo31⟩ := Kd.R_slice HO177.out
  ((subst eo31))
  obtain ⟨Ao36, co36, eo36⟩ := Kd.R_slice HO183.out
  ((subst eo36))
  refine hK.out _ _ ⟨(blk_cell BK159.out 0).trans rfl, (blk_cell BK159.out 1).trans rfl, (blk_cell BK159.out 2).trans rfl, (blk_cell BK159.out 3).trans rfl, (blk_cell BK159.out 4).trans rfl, (blk_cell BK160.out 0).trans rfl, (blk_cell BK160.out 1).trans rfl, (blk_cell BK160.out 2).trans rfl, (blk_cell BK160.out 3).trans rfl, (blk_cell BK161.out 0).trans rfl, (blk_cell BK161.out 1).trans rfl, (blk_cell BK161.out 2).trans rfl, (blk_cell BK161.out 3).trans rfl⟩ (fun hHeld => ?_)
  clear hK K
  refine norm_ (a' := ?_) ?_ ?_
  rotate_left
  ·show Act.put _ (some 23) _ = _
   simp only [Act.put, List.setIfInBounds_toArray, List.set_cons_zero, List.set_cons_succ, i64_w, i32_w]
   rfl
  refine last_ (i := 6) (N := none) #[true, true, true, true, true, true, true, false, false] rfl rfl (one_of HT_.out (by kernel_rfl)) (by decide) (fun K hK => ?_)
  have hs22 : w21.cell? ⟨gb159, 0, none⟩ = some (.int .i64 a0_0) := (blk_cell BK159.out 0).trans rfl
  have hfs22 := blk_frozen BK159.out 0
  have hns22_1 := NB160_159.out
  have hns22_2 := NB161_159.out
  have hns22_3 := NB162_159.out
  have hns22_4 := NB163_159.out
  have hms22_1 := NB159_160.out
  have hms22_2 := NB159_161.out
  have hms22_3 := NB159_162.out
  have hms22_4 := NB159_163.out
  have hs23 : w21.cell? ⟨gb159, 1, none⟩ = some (.int .i64 a0_1) := (blk_cell BK159.out 1).trans rfl
  have hfs23 := blk_frozen BK159.out 1
  have hns23_1 := NB160_159.out
  have hns23_2 := NB161_159.out
  have hns23_3 := NB162_159.out
  have hns23_4 := NB163_159.out
  have hms23_1 := NB159_160.out
  have hms23_2 := NB159_161.out
  have hms23_3 := NB159_162.out
  have hms23_4 := NB159_163.out
  have hs24 : w21.cell? ⟨gb159, 2, none⟩ = some (.int .i64 a0_2) := (blk_cell BK159.out 2).trans rfl
  have hfs24 := blk_frozen BK159.out 2
  have hns24_1 := NB160_159.out
  have hns24_2 := NB161_159.out
  have hns24_3 := NB162_159.out
  have hns24_4 := NB163_159.out
  have hms24_1 := NB159_160.out
  have hms24_2 := NB159_161.out
  have hms24_3 := NB159_162.out
  have hms24_4 := NB159_163.out
  have hs25 : w21.cell? ⟨gb159, 3, none⟩ = some (.int .i64 a0_3) := (blk_cell BK159.out 3).trans rfl
  have hfs25 := blk_frozen BK159.out 3
  have hns25_1 := NB160_159.out
  have hns25_2 := NB161_159.out
  have hns25_3 := NB162_159.out
  have hns25_4 := NB163_159.out
  have hms25_1 := NB159_160.out
  have hms25_2 := NB159_161.out
  have hms25_3 := NB159_162.out
  have hms25_4 := NB159_163.out
  have hs27 : w21.cell? ⟨gb159, 4, none⟩ = some (.slice A0_4 l0_4.length c0_4) := (blk_cell BK159.out 4).trans rfl
  have hfs27 := blk_frozen BK159.out 4
  have hns27_1 := NB160_159.out
  have hns27_2 := NB161_159.out
  have hns27_3 := NB162_159.out
  have hns27_4 := NB163_159.out
  have hms27_1 := NB159_160.out
  have hms27_2 := NB159_161.out
  have hms27_3 := NB159_162.out
  have hms27_4 := NB159_163.out
  refine skip_ (w1 := ?_) (by rfl) rfl ?_ ?_
  rotate_left
  ·go_simp
   rfl
  refine hK.out _ _ ?_
  clear hK K
  obtain ⟨w22, hw_⟩ : ∃ W_, W_ = (((((w21.setCell ⟨gb159, 0, none⟩ (.int .i64 t165)).setCell ⟨gb159, 1, none⟩ (.int .i64 t166)).setCell ⟨gb159, 2, none⟩ (.int .i64 t167)).setCell ⟨gb159, 3, none⟩ (.int .i64 t168)).setCell ⟨gb159, 4, none⟩ (.slice Ao26 t169.length co26)) := ⟨_, rfl⟩
  have n0_ : Aside0 (Kd.R (Kd.int .i64) 3 w22 w.heap.size (fun _ => True) (.slice Ao26 t169.length co26) t169) := ⟨by rw [hw_]; exact Kd.R_mono (Kd.R_far (p := ⟨gb159, 4, none⟩) (Kd.R_far (p := ⟨gb159, 3, none⟩) (Kd.R_far (p := ⟨gb159, 2, none⟩) (Kd.R_far (p := ⟨gb159, 1, none⟩) (Kd.R_far (p := ⟨gb159, 0, none⟩) (Kd.R_types HO171.out BK159.out (by decide)) (fun _ hk => hk.2) (.int .i64 t165)) (fun _ hk => hk.2) (.int .i64 t166)) (fun _ hk => hk.2) (.int .i64 t167)) (fun _ hk => hk.2) (.int .i64 t168)) (fun _ hk => hk.2) (.slice Ao26 t169.length co26)) (fun _ _ => trivial)⟩
  have n1_ : Aside0 (Kd.R k43 43 w22 w.heap.size (fun k_ => some k_ ≠ (.slice Ao36 t181.length co36 : Value).ownBlock) (.slice Ao31 t175.length co31) t175) := ⟨by rw [hw_]; exact Kd.R_mono (Kd.R_far (p := ⟨gb159, 4, none⟩) (Kd.R_far (p := ⟨gb159, 3, none⟩) (Kd.R_far (p := ⟨gb159, 2, none⟩) (Kd.R_far (p := ⟨gb159, 1, none⟩) (Kd.R_far (p := ⟨gb159, 0, none⟩) (Kd.R_types HO177.out BK159.out (by decide)) (fun _ hk => hk.2) (.int .i64 t165)) (fun _ hk => hk.2) (.int .i64 t166)) (fun _ hk => hk.2) (.int .i64 t167)) (fun _ hk => hk.2) (.int .i64 t168)) (fun _ hk => hk.2) (.slice Ao26 t169.length co26)) (fun _ hk => hk.1.2)⟩
  have n2_ : Aside0 (Kd.R k43 43 w22 w.heap.size (fun k_ => some k_ ≠ (.slice Ao31 t175.length co31 : Value).ownBlock) (.slice Ao36 t181.length co36) t181) := ⟨by rw [hw_]; exact Kd.R_mono (Kd.R_far (p := ⟨gb159, 4, none⟩) (Kd.R_far (p := ⟨gb159, 3, none⟩) (Kd.R_far (p := ⟨gb159, 2, none⟩) (Kd.R_far (p := ⟨gb159, 1, none⟩) (Kd.R_far (p := ⟨gb159, 0, none⟩) (Kd.R_types HO183.out BK159.out (by decide)) (fun _ hk => hk.2) (.int .i64 t165)) (fun _ hk => hk.2) (.int .i64 t166)) (fun _ hk => hk.2) (.int .i64 t167)) (fun _ hk => hk.2) (.int .i64 t168)) (fun _ hk => hk.2) (.slice Ao26 t169.length co26)) (fun _ hk => hk.1.2)⟩
  have n3_ : Aside0 (w22.heap[gb159]? = some (.cells #[.int .i64 t165, .int .i64 t166, .int .i64 t167, .int .i64 t168, .slice Ao26 t169.length co26] 24 (0, 0))) := ⟨by rw [hw_]; exact (blk_put (cs := #[.int .i64 t165, .int .i64 t166, .int .i64 t167, .int .i64 t168, .slice A0_4 l0_4.length c0_4]) (blk_put (cs := #[.int .i64 t165, .int .i64 t166, .int .i64 t167, .int .i64 a0_3, .slice A0_4 l0_4.length c0_4]) (blk_put (cs := #[.int .i64 t165, .int .i64 t166, .int .i64 a0_2, .int .i64 a0_3, .slice A0_4 l0_4.length c0_4]) (blk_put (cs := #[.int .i64 t165, .int .i64 a0_1, .int .i64 a0_2, .int .i64 a0_3, .slice A0_4 l0_4.length c0_4]) (blk_put (cs := #[.int .i64 a0_0, .int .i64 a0_1, .int .i64 a0_2, .int .i64 a0_3, .slice A0_4 l0_4.length c0_4]) BK159.out 0 _ rfl) 1 _ rfl) 2 _ rfl) 3 _ rfl) 4 _ rfl)⟩
  have n4_ := Aside0.mk (blk_far (p := ⟨gb159, 4, none⟩) (blk_far (p := ⟨gb159, 3, none⟩) (blk_far (p := ⟨gb159, 2, none⟩) (blk_far (p := ⟨gb159, 1, none⟩) (blk_far (p := ⟨gb159, 0, none⟩) BK160.out NB160_159.out (.int .i64 t165)) NB160_159.out (.int .i64 t166)) NB160_159.out (.int .i64 t167)) NB160_159.out (.int .i64 t168)) NB160_159.out (.slice Ao26 t169.length co26))
  rw [← hw_] at n4_
  have n5_ := Aside0.mk (blk_far (p := ⟨gb159, 4, none⟩) (blk_far (p := ⟨gb159, 3, none⟩) (blk_far (p := ⟨gb159, 2, none⟩) (blk_far (p := ⟨gb159, 1, none⟩) (blk_far (p := ⟨gb159, 0, none⟩) BK161.out NB161_159.out (.int .i64 t165)) NB161_159.out (.int .i64 t166)) NB161_159.out (.int .i64 t167)) NB161_159.out (.int .i64 t168)) NB161_159.out (.slice Ao26 t169.length co26))
  rw [← hw_] at n5_
  have n6_ := Aside0.mk (blk_far (p := ⟨gb159, 4, none⟩) (blk_far (p := ⟨gb159, 3, none⟩) (blk_far (p := ⟨gb159, 2, none⟩) (blk_far (p := ⟨gb159, 1, none⟩) (blk_far (p := ⟨gb159, 0, none⟩) BK162.out NB162_159.out (.int .i64 t165)) NB162_159.out (.int .i64 t166)) NB162_159.out (.int .i64 t167)) NB162_159.out (.int .i64 t168)) NB162_159.out (.slice Ao26 t169.length co26))
  rw [← hw_] at n6_
  have n7_ := Aside0.mk (blk_far (p := ⟨gb159, 4, none⟩) (blk_far (p := ⟨gb159, 3, none⟩) (blk_far (p := ⟨gb159, 2, none⟩) (blk_far (p := ⟨gb159, 1, none⟩) (blk_far (p := ⟨gb159, 0, none⟩) BK163.out NB163_159.out (.int .i64 t165)) NB163_159.out (.int .i64 t166)) NB163_159.out (.int .i64 t167)) NB163_159.out (.int .i64 t168)) NB163_159.out (.slice Ao26 t169.length co26))
  rw [← hw_] at n7_
  have n8_ : Aside0 (Below w.heap.size w w22) := ⟨by rw [hw_]; exact (below_set (j := 4) (v := .slice Ao26 t169.length co26) (below_set (j := 3) (v := .int .i64 t168) (below_set (j := 2) (v := .int .i64 t167) (below_set (j := 1) (v := .int .i64 t166) (below_set (j := 0) (v := .int .i64 t165) HB.out GE159.out) GE159.out) GE159.out) GE159.out) GE159.out)⟩
  rw [← hw_]
  clear hw_ HO171 HO177 HO183 BK159 BK160 BK161 BK162 BK163 HB
  have HO171 := n0_
  have HO177 := n1_
  have HO183 := n2_
  have BK159 := n3_
  have BK160 := n4_
  have BK161 := n5_
  have BK162 := n6_
  have BK163 := n7_
  have HB := n8_
  clear n0_ n1_ n2_ n3_ n4_ n5_ n6_ n7_ n8_
  refine last_ (i := 7) (N := none) #[true, true, true, true, true, true, true, true, false] rfl rfl (one_of HT_.out (by kernel_rfl)) (by decide) (fun K hK => ?_)
  have hs28 : w22.cell? ⟨gb160, 0, none⟩ = some (.int .i64 a1_0) := (blk_cell BK160.out 0).trans rfl
  have hfs28 := blk_frozen BK160.out 0
  have hns28_0 := NB159_160.out
  have hns28_2 := NB161_160.out
  have hns28_3 := NB162_160.out
  have hns28_4 := NB163_160.out
  have hms28_0 := NB160_159.out
  have hms28_2 := NB160_161.out
  have hms28_3 := NB160_162.out
  have hms28_4 := NB160_163.out
  have hs29 : w22.cell? ⟨gb160, 1, none⟩ = some (.int .i64 a1_1) := (blk_cell BK160.out 1).trans rfl
  have hfs29 := blk_frozen BK160.out 1
  have hns29_0 := NB159_160.out
  have hns29_2 := NB161_160.out
  have hns29_3 := NB162_160.out
  have hns29_4 := NB163_160.out
  have hms29_0 := NB160_159.out
  have hms29_2 := NB160_161.out
  have hms29_3 := NB160_162.out
  have hms29_4 := NB160_163.out
  have hs30 : w22.cell? ⟨gb160, 2, none⟩ = some (.int .i64 a1_2) := (blk_cell BK160.out 2).trans rfl
  have hfs30 := blk_frozen BK160.out 2
  have hns30_0 := NB159_160.out
  have hns30_2 := NB161_160.out
  have hns30_3 := NB162_160.out
  have hns30_4 := NB163_160.out
  have hms30_0 := NB160_159.out
  have hms30_2 := NB160_161.out
  have hms30_3 := NB160_162.out
  have hms30_4 := NB160_163.out
  have hs32 : w22.cell? ⟨gb160, 3, none⟩ = some (.slice A1_3 l1_3.length c1_3) := (blk_cell BK160.out 3).trans rfl
  have hfs32 := blk_frozen BK160.out 3
  have hns32_0 := NB159_160.out
  have hns32_2 := NB161_160.out
  have hns32_3 := NB162_160.out
  have hns32_4 := NB163_160.out
  have hms32_0 := NB160_159.out
  have hms32_2 := NB160_161.out
  have hms32_3 := NB160_162.out
  have hms32_4 := NB160_163.out
  refine skip_ (w1 := ?_) (by rfl) rfl ?_ ?_
  rotate_left
  ·go_simp
   rfl
  refine hK.out _ _ ?_
  clear hK K
  obtain ⟨w23, hw_⟩ : ∃ W_, W_ = ((((w22.setCell ⟨gb160, 0, none⟩ (.int .i64 t172)).setCell ⟨gb160, 1, none⟩ (.int .i64 t173)).setCell ⟨gb160, 2, none⟩ (.int .i64 t174)).setCell ⟨gb160, 3, none⟩ (.slice Ao31 t175.length co31)) := ⟨_, rfl⟩
  have n0_ : Aside0 (Kd.R (Kd.int .i64) 3 w23 w.heap.size (fun _ => True) (.slice Ao26 t169.length co26) t169) := ⟨by rw [hw_]; exact Kd.R_mono (Kd.R_far (p := ⟨gb160, 3, none⟩) (Kd.R_far (p := ⟨gb160, 2, none⟩) (Kd.R_far (p := ⟨gb160, 1, none⟩) (Kd.R_far (p := ⟨gb160, 0, none⟩) (Kd.R_types HO171.out BK160.out (by decide)) (fun _ hk => hk.2) (.int .i64 t172)) (fun _ hk => hk.2) (.int .i64 t173)) (fun _ hk => hk.2) (.int .i64 t174)) (fun _ hk => hk.2) (.slice Ao31 t175.length co31)) (fun _ _ => trivial)⟩
  have n1_ : Aside0 (Kd.R k43 43 w23 w.heap.size (fun k_ => some k_ ≠ (.slice Ao36 t181.length co36 : Value).ownBlock) (.slice Ao31 t175.length co31) t175) := ⟨by rw [hw_]; exact Kd.R_mono (Kd.R_far (p := ⟨gb160, 3, none⟩) (Kd.R_far (p := ⟨gb160, 2, none⟩) (Kd.R_far (p := ⟨gb160, 1, none⟩) (Kd.R_far (p := ⟨gb160, 0, none⟩) (Kd.R_types HO177.out BK160.out (by decide)) (fun _ hk => hk.2) (.int .i64 t172)) (fun _ hk => hk.2) (.int .i64 t173)) (fun _ hk => hk.2) (.int .i64 t174)) (fun _ hk => hk.2) (.slice Ao31 t175.length co31)) (fun _ hk => hk.1)⟩
  have n2_ : Aside0 (Kd.R k43 43 w23 w.heap.size (fun k_ => some k_ ≠ (.slice Ao31 t175.length co31 : Value).ownBlock) (.slice Ao36 t181.length co36) t181) := ⟨by rw [hw_]; exact Kd.R_mono (Kd.R_far (p := ⟨gb160, 3, none⟩) (Kd.R_far (p := ⟨gb160, 2, none⟩) (Kd.R_far (p := ⟨gb160, 1, none⟩) (Kd.R_far (p := ⟨gb160, 0, none⟩) (Kd.R_types HO183.out BK160.out (by decide)) (fun _ hk => hk.2) (.int .i64 t172)) (fun _ hk => hk.2) (.int .i64 t173)) (fun _ hk => hk.2) (.int .i64 t174)) (fun _ hk => hk.2) (.slice Ao31 t175.length co31)) (fun _ hk => hk.1)⟩
  have n3_ := Aside0.mk (blk_far (p := ⟨gb160, 3, none⟩) (blk_far (p := ⟨gb160, 2, none⟩) (blk_far (p := ⟨gb160, 1, none⟩) (blk_far (p := ⟨gb160, 0, none⟩) BK159.out NB159_160.out (.int .i64 t172)) NB159_160.out (.int .i64 t173)) NB159_160.out (.int .i64 t174)) NB159_160.out (.slice Ao31 t175.length co31))
  rw [← hw_] at n3_
  have n4_ : Aside0 (w23.heap[gb160]? = some (.cells #[.int .i64 t172, .int .i64 t173, .int .i64 t174, .slice Ao31 t175.length co31] 27 (0, 0))) := ⟨by rw [hw_]; exact (blk_put (cs := #[.int .i64 t172, .int .i64 t173, .int .i64 t174, .slice A1_3 l1_3.length c1_3]) (blk_put (cs := #[.int .i64 t172, .int .i64 t173, .int .i64 a1_2, .slice A1_3 l1_3.length c1_3]) (blk_put (cs := #[.int .i64 t172, .int .i64 a1_1, .int .i64 a1_2, .slice A1_3 l1_3.length c1_3]) (blk_put (cs := #[.int .i64 a1_0, .int .i64 a1_1, .int .i64 a1_2, .slice A1_3 l1_3.length c1_3]) BK160.out 0 _ rfl) 1 _ rfl) 2 _ rfl) 3 _ rfl)⟩
  have n5_ := Aside0.mk (blk_far (p := ⟨gb160, 3, none⟩) (blk_far (p := ⟨gb160, 2, none⟩) (blk_far (p := ⟨gb160, 1, none⟩) (blk_far (p := ⟨gb160, 0, none⟩) BK161.out NB161_160.out (.int .i64 t172)) NB161_160.out (.int .i64 t173)) NB161_160.out (.int .i64 t174)) NB161_160.out (.slice Ao31 t175.length co31))
  rw [← hw_] at n5_
  have n6_ := Aside0.mk (blk_far (p := ⟨gb160, 3, none⟩) (blk_far (p := ⟨gb160, 2, none⟩) (blk_far (p := ⟨gb160, 1, none⟩) (blk_far (p := ⟨gb160, 0, none⟩) BK162.out NB162_160.out (.int .i64 t172)) NB162_160.out (.int .i64 t173)) NB162_160.out (.int .i64 t174)) NB162_160.out (.slice Ao31 t175.length co31))
  rw [← hw_] at n6_
  have n7_ := Aside0.mk (blk_far (p := ⟨gb160, 3, none⟩) (blk_far (p := ⟨gb160, 2, none⟩) (blk_far (p := ⟨gb160, 1, none⟩) (blk_far (p := ⟨gb160, 0, none⟩) BK163.out NB163_160.out (.int .i64 t172)) NB163_160.out (.int .i64 t173)) NB163_160.out (.int .i64 t174)) NB163_160.out (.slice Ao31 t175.length co31))
  rw [← hw_] at n7_
  have n8_ : Aside0 (Below w.heap.size w w23) := ⟨by rw [hw_]; exact (below_set (j := 3) (v := .slice Ao31 t175.length co31) (below_set (j := 2) (v := .int .i64 t174) (below_set (j := 1) (v := .int .i64 t173) (below_set (j := 0) (v := .int .i64 t172) HB.out GE160.out) GE160.out) GE160.out) GE160.out)⟩
  rw [← hw_]
  clear hw_ HO171 HO177 HO183 BK159 BK160 BK161 BK162 BK163 HB
  have HO171 := n0_
  have HO177 := n1_
  have HO183 := n2_
  have BK159 := n3_
  have BK160 := n4_
  have BK161 := n5_
  have BK162 := n6_
  have BK163 := n7_
  have HB := n8_
  clear n0_ n1_ n2_ n3_ n4_ n5_ n6_ n7_ n8_
  refine last_ (i := 8) (N := none) #[true, true, true, true, true, true, true, true, true] rfl rfl (one_of HT_.out (by kernel_rfl)) (by decide) (fun K hK => ?_)
  have hs33 : w23.cell? ⟨gb161, 0, none⟩ = some (.int .i64 a2_0) := (blk_cell BK161.out 0).trans rfl
  have hfs33 := blk_frozen BK161.out 0
  have hns33_0 := NB159_161.out
  have hns33_1 := NB160_161.out
  have hns33_3 := NB162_161.out
  have hns33_4 := NB163_161.out
  have hms33_0 := NB161_159.out
  have hms33_1 := NB161_160.out
  have hms33_3 := NB161_162.out
  have hms33_4 := NB161_163.out
  have hs34 : w23.cell? ⟨gb161, 1, none⟩ = some (.int .i64 a2_1) := (blk_cell BK161.out 1).trans rfl
  have hfs34 := blk_frozen BK161.out 1
  have hns34_0 := NB159_161.out
  have hns34_1 := NB160_161.out
  have hns34_3 := NB162_161.out
  have hns34_4 := NB163_161.out
  have hms34_0 := NB161_159.out
  have hms34_1 := NB161_160.out
  have hms34_3 := NB161_162.out
  have hms34_4 := NB161_163.out
  have hs35 : w23.cell? ⟨gb161, 2, none⟩ = some (.int .i64 a2_2) := (blk_cell BK161.out 2).trans rfl
  have hfs35 := blk_frozen BK161.out 2
  have hns35_0 := NB159_161.out
  have hns35_1 := NB160_161.out
  have hns35_3 := NB162_161.out
  have hns35_4 := NB163_161.out
  have hms35_0 := NB161_159.out
  have hms35_1 := NB161_160.out
  have hms35_3 := NB161_162.out
  have hms35_4 := NB161_163.out
  have hs37 : w23.cell? ⟨gb161, 3, none⟩ = some (.slice A2_3 l2_3.length c2_3) := (blk_cell BK161.out 3).trans rfl
  have hfs37 := blk_frozen BK161.out 3
  have hns37_0 := NB159_161.out
  have hns37_1 := NB160_161.out
  have hns37_3 := NB162_161.out
  have hns37_4 := NB163_161.out
  have hms37_0 := NB161_159.out
  have hms37_1 := NB161_160.out
  have hms37_3 := NB161_162.out
  have hms37_4 := NB161_163.out
  refine skip_ (w1 := ?_) (by rfl) rfl ?_ ?_
  rotate_left
  ·go_simp
   rfl
  refine hK.out _ _ ?_
  clear hK K
  obtain ⟨w24, hw_⟩ : ∃ W_, W_ = ((((w23.setCell ⟨gb161, 0, none⟩ (.int .i64 t178)).setCell ⟨gb161, 1, none⟩ (.int .i64 t179)).setCell ⟨gb161, 2, none⟩ (.int .i64 t180)).setCell ⟨gb161, 3, none⟩ (.slice Ao36 t181.length co36)) := ⟨_, rfl⟩
  have n0_ : Aside0 (Kd.R (Kd.int .i64) 3 w24 w.heap.size (fun _ => True) (.slice Ao26 t169.length co26) t169) := ⟨by rw [hw_]; exact Kd.R_mono (Kd.R_far (p := ⟨gb161, 3, none⟩) (Kd.R_far (p := ⟨gb161, 2, none⟩) (Kd.R_far (p := ⟨gb161, 1, none⟩) (Kd.R_far (p := ⟨gb161, 0, none⟩) (Kd.R_types HO171.out BK161.out (by decide)) (fun _ hk => hk.2) (.int .i64 t178)) (fun _ hk => hk.2) (.int .i64 t179)) (fun _ hk => hk.2) (.int .i64 t180)) (fun _ hk => hk.2) (.slice Ao36 t181.length co36)) (fun _ _ => trivial)⟩
  have n1_ : Aside0 (Kd.R k43 43 w24 w.heap.size (fun k_ => some k_ ≠ (.slice Ao36 t181.length co36 : Value).ownBlock) (.slice Ao31 t175.length co31) t175) := ⟨by rw [hw_]; exact Kd.R_mono (Kd.R_far (p := ⟨gb161, 3, none⟩) (Kd.R_far (p := ⟨gb161, 2, none⟩) (Kd.R_far (p := ⟨gb161, 1, none⟩) (Kd.R_far (p := ⟨gb161, 0, none⟩) (Kd.R_types HO177.out BK161.out (by decide)) (fun _ hk => hk.2) (.int .i64 t178)) (fun _ hk => hk.2) (.int .i64 t179)) (fun _ hk => hk.2) (.int .i64 t180)) (fun _ hk => hk.2) (.slice Ao36 t181.length co36)) (fun _ hk => hk.1)⟩
  have n2_ : Aside0 (Kd.R k43 43 w24 w.heap.size (fun k_ => some k_ ≠ (.slice Ao31 t175.length co31 : Value).ownBlock) (.slice Ao36 t181.length co36) t181) := ⟨by rw [hw_]; exact Kd.R_mono (Kd.R_far (p := ⟨gb161, 3, none⟩) (Kd.R_far (p := ⟨gb161, 2, none⟩) (Kd.R_far (p := ⟨gb161, 1, none⟩) (Kd.R_far (p := ⟨gb161, 0, none⟩) (Kd.R_types HO183.out BK161.out (by decide)) (fun _ hk => hk.2) (.int .i64 t178)) (fun _ hk => hk.2) (.int .i64 t179)) (fun _ hk => hk.2) (.int .i64 t180)) (fun _ hk => hk.2) (.slice Ao36 t181.length co36)) (fun _ hk => hk.1)⟩
  have n3_ := Aside0.mk (blk_far (p := ⟨gb161, 3, none⟩) (blk_far (p := ⟨gb161, 2, none⟩) (blk_far (p := ⟨gb161, 1, none⟩) (blk_far (p := ⟨gb161, 0, none⟩) BK159.out NB159_161.out (.int .i64 t178)) NB159_161.out (.int .i64 t179)) NB159_161.out (.int .i64 t180)) NB159_161.out (.slice Ao36 t181.length co36))
  rw [← hw_] at n3_
  have n4_ := Aside0.mk (blk_far (p := ⟨gb161, 3, none⟩) (blk_far (p := ⟨gb161, 2, none⟩) (blk_far (p := ⟨gb161, 1, none⟩) (blk_far (p := ⟨gb161, 0, none⟩) BK160.out NB160_161.out (.int .i64 t178)) NB160_161.out (.int .i64 t179)) NB160_161.out (.int .i64 t180)) NB160_161.out (.slice Ao36 t181.length co36))
  rw [← hw_] at n4_
  have n5_ : Aside0 (w24.heap[gb161]? = some (.cells #[.int .i64 t178, .int .i64 t179, .int .i64 t180, .slice Ao36 t181.length co36] 27 (0, 0))) := ⟨by rw [hw_]; exact (blk_put (cs := #[.int .i64 t178, .int .i64 t179, .int .i64 t180, .slice A2_3 l2_3.length c2_3]) (blk_put (cs := #[.int .i64 t178, .int .i64 t179, .int .i64 a2_2, .slice A2_3 l2_3.length c2_3]) (blk_put (cs := #[.int .i64 t178, .int .i64 a2_1, .int .i64 a2_2, .slice A2_3 l2_3.length c2_3]) (blk_put (cs := #[.int .i64 a2_0, .int .i64 a2_1, .int .i64 a2_2, .slice A2_3 l2_3.length c2_3]) BK161.out 0 _ rfl) 1 _ rfl) 2 _ rfl) 3 _ rfl)⟩
  have n6_ := Aside0.mk (blk_far (p := ⟨gb161, 3, none⟩) (blk_far (p := ⟨gb161, 2, none⟩) (blk_far (p := ⟨gb161, 1, none⟩) (blk_far (p := ⟨gb161, 0, none⟩) BK162.out NB162_161.out (.int .i64 t178)) NB162_161.out (.int .i64 t179)) NB162_161.out (.int .i64 t180)) NB162_161.out (.slice Ao36 t181.length co36))
  rw [← hw_] at n6_
  have n7_ := Aside0.mk (blk_far (p := ⟨gb161, 3, none⟩) (blk_far (p := ⟨gb161, 2, none⟩) (blk_far (p := ⟨gb161, 1, none⟩) (blk_far (p := ⟨gb161, 0, none⟩) BK163.out NB163_161.out (.int .i64 t178)) NB163_161.out (.int .i64 t179)) NB163_161.out (.int .i64 t180)) NB163_161.out (.slice Ao36 t181.length co36))
  rw [← hw_] at n7_
  have n8_ : Aside0 (Below w.heap.size w w24) := ⟨by rw [hw_]; exact (below_set (j := 3) (v := .slice Ao36 t181.length co36) (below_set (j := 2) (v := .int .i64 t180) (below_set (j := 1) (v := .int .i64 t179) (below_set (j := 0) (v := .int .i64 t178) HB.out GE161.out) GE161.out) GE161.out) GE161.out)⟩
  rw [← hw_]
  clear hw_ HO171 HO177 HO183 BK159 BK160 BK161 BK162 BK163 HB
  have HO171 := n0_
  have HO177 := n1_
  have HO183 := n2_
  have BK159 := n3_
  have BK160 := n4_
  have BK161 := n5_
  have BK162 := n6_
  have BK163 := n7_
  have HB := n8_
  clear n0_ n1_ n2_ n3_ n4_ n5_ n6_ n7_ n8_
  refine done_ (done_of HT_.out (by kernel_rfl)) ?_
  go_upto_region 5 with (fail)
  go_cut [50] (fun v50 wc => ∃ (kq : Nat) (x50_10 : Bool), v50 = .bool x50_10 ∧ Aside0 (hortatorlaw7_RuleAll.j0 kq x50_10 t165 t166 t167 t168 t169 t172 t173 t174 t175 a4_0 a4_1 a4_2 a4_3 = some r) ∧ Aside0 (kq ≤ k) ∧ Aside0 (Kd.R (Kd.int .i64) 3 wc w.heap.size (fun _ => True) (.slice Ao26 t169.length co26) t169) ∧ Aside0 (Kd.R k43 43 wc w.heap.size (fun k_ => some k_ ≠ ((.slice Ao36 t181.length co36) : Value).ownBlock) (.slice Ao31 t175.length co31) t175) ∧ Aside0 (Kd.R k43 43 wc w.heap.size (fun k_ => some k_ ≠ ((.slice Ao31 t175.length co31) : Value).ownBlock) (.slice Ao36 t181.length co36) t181) ∧ Aside0 (wc.heap[gb159]? = some (.cells #[.int .i64 t165, .int .i64 t166, .int .i64 t167, .int .i64 t168, (.slice Ao26 t169.length co26)] 24 (0, 0))) ∧ Aside0 (wc.heap[gb160]? = some (.cells #[.int .i64 t172, .int .i64 t173, .int .i64 t174, (.slice Ao31 t175.length co31)] 27 (0, 0))) ∧ Aside0 (wc.heap[gb161]? = some (.cells #[.int .i64 t178, .int .i64 t179, .int .i64 t180, (.slice Ao36 t181.length co36)] 27 (0, 0))) ∧ Aside0 (wc.heap[gb162]? = some (.cells #[.int .i64 a3_0, .int .i64 a3_1, .int .i64 a3_2] 29 (0, 0))) ∧ Aside0 (wc.heap[gb163]? = some (.cells #[.int .i64 a4_0, .int .i64 a4_1, .int .i64 a4_2, .int .i64 a4_3] 31 (0, 0))) ∧ Aside0 (Below w.heap.size w wc))
  case first =>
   have H := HC11.out
   clear HC11
   replace H := Option.bind_eq_some_iff.mp H
   obtain ⟨t184, A380, H⟩ := H
   have A38 := Aside0.mk A380
   clear A380
   replace H := Option.bind_eq_some_iff.mp H
   obtain ⟨t185, A390, H⟩ := H
   have A39 := Aside0.mk A390
   clear A390
   by_cases c40 : (t184 != t185) = true
   ·rw [if_pos c40] at H
    have c40b0 : (t184 != t185) = true := c40
    (try (have c40b1 : decide (t184 = t185) = false := by simpa using c40))
    (try (have c40b2 : (t184 == t185) = false := by simpa using c40))
    (try (have c40b3 : ¬ (t184 = t185) := by simpa using c40))
    clear c40
    ((skip))
    have H' := Aside0.mk H
    clear H
    try go_wp2
    generalize w24 = w41 at HO171 HO177 HO183 BK159 BK160 BK161 BK162 BK163 HB ⊢
    have n0_ := Aside0.mk (Kd.R_drew HO171.out)
    have n1_ := Aside0.mk (Kd.R_drew HO177.out)
    have n2_ := Aside0.mk (Kd.R_drew HO183.out)
    have n3_ := Aside0.mk (blk_drew BK159.out)
    have n4_ := Aside0.mk (blk_drew BK160.out)
    have n5_ := Aside0.mk (blk_drew BK161.out)
    have n6_ := Aside0.mk (blk_drew BK162.out)
    have n7_ := Aside0.mk (blk_drew BK163.out)
    have n8_ := Aside0.mk (below_drew1 HB.out)
    clear HO171
    clear HO177
    clear HO183
    clear BK159
    clear BK160
    clear BK161
    clear BK162
    clear BK163
    clear HB
    have HO171 := n0_
    have HO177 := n1_
    have HO183 := n2_
    have BK159 := n3_
    have BK160 := n4_
    have BK161 := n5_
    have BK162 := n6_
    have BK163 := n7_
    have HB := n8_
    clear n0_ n1_ n2_ n3_ n4_ n5_ n6_ n7_ n8_
    refine start_ (n := 27) (S := fun w' => w'.cell? ⟨gb159, 0, none⟩ = some (.int .i64 t165) ∧ w'.cell? ⟨gb159, 1, none⟩ = some (.int .i64 t166) ∧ w'.cell? ⟨gb159, 2, none⟩ = some (.int .i64 t167) ∧ w'.cell? ⟨gb159, 3, none⟩ = some (.int .i64 t168) ∧ w'.cell? ⟨gb159, 4, none⟩ = some (.slice Ao26 t169.length co26)) (ds := []) #[false, false, false, false, false, false, false, false, false, false, false, false, false, false, false, false, false, false, false, false, false, false, false, false, false, false, false] (by kernel_rfl) rfl rfl ⟨(blk_cell BK159.out 0).trans rfl, (blk_cell BK159.out 1).trans rfl, (blk_cell BK159.out 2).trans rfl, (blk_cell BK159.out 3).trans rfl, (blk_cell BK159.out 4).trans rfl⟩ (fun hHeld => ?_); refine with_tabW hortatorlaw7_RuleAll.tab5 hortatorlaw7_RuleAll.bits5 (fun HT_ HW_ => ?_)
    generalize w41.drew = w42 at HO171 HO177 HO183 BK159 BK160 BK161 BK162 BK163 HB hHeld ⊢
    refine take_ (i := 0) (N := some 24) (v := ?_) (a' := ?_) #[true, false, false, false, false, false, false, false, false, false, false, false, false, false, false, false, false, false, false, false, false, false, false, false, false, false, false] rfl rfl (take_ofW HT_.out HW_.out (by kernel_rfl)) (fun _ _ _ h => h) (Or.inl ⟨by rfl, ?_⟩) hHeld ?_ ?_
    rotate_left
    ·rintro w' ⟨s0, s1, s2, s3, s4⟩
     go_simp
     with_reducible rfl
    rotate_left
    ·simp only [Act.put, List.setIfInBounds_toArray, List.set_cons_zero, List.set_cons_succ, i64_w, i32_w]
     rfl
    refine take_ (i := 2) (N := some 26) (v := ?_) (a' := ?_) #[true, false, true, false, false, false, false, false, false, false, false, false, false, false, false, false, false, false, false, false, false, false, false, false, false, false, false] rfl rfl (take_ofW HT_.out HW_.out (by kernel_rfl)) (fun _ _ _ h => h) (Or.inl ⟨by rfl, ?_⟩) hHeld ?_ ?_
    rotate_left
    ·rintro w' ⟨s0, s1, s2, s3, s4⟩
     go_simp
     with_reducible rfl
    rotate_left
    ·simp only [Act.put, List.setIfInBounds_toArray, List.set_cons_zero, List.set_cons_succ, i64_w, i32_w]
     rfl
    refine one_ (i := 1) (N := some 25) #[true, true, true, false, false, false, false, false, false, false, false, false, false, false, false, false, false, false, false, false, false, false, false, false, false, false, false] rfl rfl (one_of HT_.out (by kernel_rfl)) (by decide) (fun K hK => ?_)
    refine goes_ Tryz.func16 (by kernel_rfl) rfl #[.agg #[.int .i64 t165, .int .i64 t166, .int .i64 t167, .int .i64 t168, .slice Ao26 t169.length co26]] (by rfl) rfl rfl (by (try simp only [List.map_toArray, List.map_cons, List.map_nil]); (rfl)) ?_
    with_reducible refine (rule_Config.calls t165 t166 t167 t168 _ _ t169 t184 _ ?side1 ?side2 A38.out).mono ?_
    (case side1 => repeat ((exact (Kd.R_reads' HO171.out).2.2)))
    (case side2 => exact (Kd.R_reads' HO171.out).2.1)
    rintro e w43 ⟨rfl, hb⟩
    refine ⟨_, rfl, ?_⟩
    have n0_ := Aside0.mk (Kd.R_below (by exact HO171.out) hb)
    have n1_ := Aside0.mk (Kd.R_below (by exact HO177.out) hb)
    have n2_ := Aside0.mk (Kd.R_below (by exact HO183.out) hb)
    have n3_ := Aside0.mk (blk_below (g := gb159) (o := .cells #[.int .i64 t165, .int .i64 t166, .int .i64 t167, .int .i64 t168, .slice Ao26 t169.length co26] 24 (0, 0)) (by exact BK159.out) hb)
    have n4_ := Aside0.mk (blk_below (g := gb160) (o := .cells #[.int .i64 t172, .int .i64 t173, .int .i64 t174, .slice Ao31 t175.length co31] 27 (0, 0)) (by exact BK160.out) hb)
    have n5_ := Aside0.mk (blk_below (g := gb161) (o := .cells #[.int .i64 t178, .int .i64 t179, .int .i64 t180, .slice Ao36 t181.length co36] 27 (0, 0)) (by exact BK161.out) hb)
    have n6_ := Aside0.mk (blk_below (g := gb162) (o := .cells #[.int .i64 a3_0, .int .i64 a3_1, .int .i64 a3_2] 29 (0, 0)) (by exact BK162.out) hb)
    have n7_ := Aside0.mk (blk_below (g := gb163) (o := .cells #[.int .i64 a4_0, .int .i64 a4_1, .int .i64 a4_2, .int .i64 a4_3] 31 (0, 0)) (by exact BK163.out) hb)
    have n8_ := Aside0.mk (below_step (by repeat ((with_reducible (exact HB.out)))) hb)
    clear HO171
    clear HO177
    clear HO183
    clear BK159
    clear BK160
    clear BK161
    clear BK162
    clear BK163
    clear HB
    have HO171 := n0_
    have HO177 := n1_
    have HO183 := n2_
    have BK159 := n3_
    have BK160 := n4_
    have BK161 := n5_
    have BK162 := n6_
    have BK163 := n7_
    have HB := n8_
    clear n0_ n1_ n2_ n3_ n4_ n5_ n6_ n7_ n8_
    (try clear hb)
    (try clear hb2)
    (try clear hk)
    (try clear hi)
    refine hK.out _ _ ⟨(blk_cell BK159.out 0).trans rfl, (blk_cell BK159.out 1).trans rfl, (blk_cell BK159.out 2).trans rfl, (blk_cell BK159.out 3).trans rfl, (blk_cell BK159.out 4).trans rfl⟩ (fun hHeld => ?_)
    clear hK K
    refine norm_ (a' := ?_) ?_ ?_
    rotate_left
    ·show Act.put _ (some 25) _ = _
     simp only [Act.put, List.setIfInBounds_toArray, List.set_cons_zero, List.set_cons_succ, i64_w, i32_w]
     rfl
    refine one_ (i := 3) (N := some 27) #[true, true, true, true, false, false, false, false, false, false, false, false, false, false, false, false, false, false, false, false, false, false, false, false, false, false, false] rfl rfl (one_of HT_.out (by kernel_rfl)) (by decide) (fun K hK => ?_)
    refine goes_ Tryz.func17 (by kernel_rfl) rfl #[.agg #[.int .i64 t165, .int .i64 t166, .int .i64 t167, .int .i64 t168, .slice Ao26 t169.length co26]] (by rfl) rfl rfl (by (try simp only [List.map_toArray, List.map_cons, List.map_nil]); (rfl)) ?_
    with_reducible refine (hortatorref7_Config.calls k t165 t166 t167 t168 _ _ t169 t185 _ ?side1 ?side2 A39.out).mono ?_
    (case side1 => repeat ((exact (Kd.R_reads' HO171.out).2.2)))
    (case side2 => exact (Kd.R_reads' HO171.out).2.1)
    rintro e w44 ⟨rfl, hb⟩
    refine ⟨_, rfl, ?_⟩
    have n0_ := Aside0.mk (Kd.R_below (by exact HO171.out) hb)
    have n1_ := Aside0.mk (Kd.R_below (by exact HO177.out) hb)
    have n2_ := Aside0.mk (Kd.R_below (by exact HO183.out) hb)
    have n3_ := Aside0.mk (blk_below (g := gb159) (o := .cells #[.int .i64 t165, .int .i64 t166, .int .i64 t167, .int .i64 t168, .slice Ao26 t169.length co26] 24 (0, 0)) (by exact BK159.out) hb)
    have n4_ := Aside0.mk (blk_below (g := gb160) (o := .cells #[.int .i64 t172, .int .i64 t173, .int .i64 t174, .slice Ao31 t175.length co31] 27 (0, 0)) (by exact BK160.out) hb)
    have n5_ := Aside0.mk (blk_below (g := gb161) (o := .cells #[.int .i64 t178, .int .i64 t179, .int .i64 t180, .slice Ao36 t181.length co36] 27 (0, 0)) (by exact BK161.out) hb)
    have n6_ := Aside0.mk (blk_below (g := gb162) (o := .cells #[.int .i64 a3_0, .int .i64 a3_1, .int .i64 a3_2] 29 (0, 0)) (by exact BK162.out) hb)
    have n7_ := Aside0.mk (blk_below (g := gb163) (o := .cells #[.int .i64 a4_0, .int .i64 a4_1, .int .i64 a4_2, .int .i64 a4_3] 31 (0, 0)) (by exact BK163.out) hb)
    have n8_ := Aside0.mk (below_step (by repeat ((with_reducible (exact HB.out)))) hb)
    clear HO171
    clear HO177
    clear HO183
    clear BK159
    clear BK160
    clear BK161
    clear BK162
    clear BK163
    clear HB
    have HO171 := n0_
    have HO177 := n1_
    have HO183 := n2_
    have BK159 := n3_
    have BK160 := n4_
    have BK161 := n5_
    have BK162 := n6_
    have BK163 := n7_
    have HB := n8_
    clear n0_ n1_ n2_ n3_ n4_ n5_ n6_ n7_ n8_
    (try clear hb)
    (try clear hb2)
    (try clear hk)
    (try clear hi)
    refine hK.out _ _ ⟨(blk_cell BK159.out 0).trans rfl, (blk_cell BK159.out 1).trans rfl, (blk_cell BK159.out 2).trans rfl, (blk_cell BK159.out 3).trans rfl, (blk_cell BK159.out 4).trans rfl⟩ (fun hHeld => ?_)
    clear hK K
    refine norm_ (a' := ?_) ?_ ?_
    rotate_left
    ·show Act.put _ (some 27) _ = _
     simp only [Act.put, List.setIfInBounds_toArray, List.set_cons_zero, List.set_cons_succ, i64_w, i32_w]
     rfl
    refine pure_ (i := 4) (N := some 28) (v := ?_) (a' := ?_) #[true, true, true, true, true, false, false, false, false, false, false, false, false, false, false, false, false, false, false, false, false, false, false, false, false, false, false] rfl rfl (any_of HT_.out (by kernel_rfl)) (fun _ _ _ h => h) (Or.inl ⟨by rfl, ?_⟩) ?_ ?_
    rotate_left
    ·intro w'
     go_simp
     with_reducible rfl
    rotate_left
    ·simp only [Act.put, List.setIfInBounds_toArray, List.set_cons_zero, List.set_cons_succ, i64_w, i32_w]
     rfl
    refine pure_ (i := 5) (N := some 29) (v := ?_) (a' := ?_) #[true, true, true, true, true, true, false, false, false, false, false, false, false, false, false, false, false, false, false, false, false, false, false, false, false, false, false] rfl rfl (any_of HT_.out (by kernel_rfl)) (fun _ _ _ h => h) (Or.inl ⟨by rfl, ?_⟩) ?_ ?_
    rotate_left
    ·intro w'
     go_simp
     with_reducible rfl
    rotate_left
    ·simp only [Act.put, List.setIfInBounds_toArray, List.set_cons_zero, List.set_cons_succ, i64_w, i32_w]
     rfl
    refine pure_ (i := 6) (N := some 30) (v := undef) (a' := ?_) #[true, true, true, true, true, true, true, false, false, false, false, false, false, false, false, false, false, false, false, false, false, false, false, false, false, false, false] rfl rfl (any_of HT_.out (by kernel_rfl)) (fun _ _ _ h => h) (Or.inr ⟨by rfl, rfl⟩) ?_ ?_
    rotate_left
    ·simp only [Act.put, List.setIfInBounds_toArray, List.set_cons_zero, List.set_cons_succ, i64_w, i32_w]
     rfl
    refine pure_ (i := 7) (N := some 31) (v := undef) (a' := ?_) #[true, true, true, true, true, true, true, true, false, false, false, false, false, false, false, false, false, false, false, false, false, false, false, false, false, false, false] rfl rfl (any_of HT_.out (by kernel_rfl)) (fun _ _ _ h => h) (Or.inr ⟨by rfl, rfl⟩) ?_ ?_
    rotate_left
    ·simp only [Act.put, List.setIfInBounds_toArray, List.set_cons_zero, List.set_cons_succ, i64_w, i32_w]
     rfl
    refine pure_ (i := 8) (N := some 32) (v := undef) (a' := ?_) #[true, true, true, true, true, true, true, true, true, false, false, false, false, false, false, false, false, false, false, false, false, false, false, false, false, false, false] rfl rfl (any_of HT_.out (by kernel_rfl)) (fun _ _ _ h => h) (Or.inr ⟨by rfl, rfl⟩) ?_ ?_
    rotate_left
    ·simp only [Act.put, List.setIfInBounds_toArray, List.set_cons_zero, List.set_cons_succ, i64_w, i32_w]
     rfl
    refine pure_ (i := 9) (N := some 33) (v := undef) (a' := ?_) #[true, true, true, true, true, true, true, true, true, true, false, false, false, false, false, false, false, false, false, false, false, false, false, false, false, false, false] rfl rfl (any_of HT_.out (by kernel_rfl)) (fun _ _ _ h => h) (Or.inr ⟨by rfl, rfl⟩) ?_ ?_
    rotate_left
    ·simp only [Act.put, List.setIfInBounds_toArray, List.set_cons_zero, List.set_cons_succ, i64_w, i32_w]
     rfl
    refine pure_ (i := 10) (N := some 34) (v := undef) (a' := ?_) #[true, true, true, true, true, true, true, true, true, true, true, false, false, false, false, false, false, false, false, false, false, false, false, false, false, false, false] rfl rfl (any_of HT_.out (by kernel_rfl)) (fun _ _ _ h => h) (Or.inr ⟨by rfl, rfl⟩) ?_ ?_
    rotate_left
    ·simp only [Act.put, List.setIfInBounds_toArray, List.set_cons_zero, List.set_cons_succ, i64_w, i32_w]
     rfl
    refine pure_ (i := 11) (N := some 35) (v := undef) (a' := ?_) #[true, true, true, true, true, true, true, true, true, true, true, true, false, false, false, false, false, false, false, false, false, false, false, false, false, false, false] rfl rfl (any_of HT_.out (by kernel_rfl)) (fun _ _ _ h => h) (Or.inr ⟨by rfl, rfl⟩) ?_ ?_
    rotate_left
    ·simp only [Act.put, List.setIfInBounds_toArray, List.set_cons_zero, List.set_cons_succ, i64_w, i32_w]
     rfl
    refine pure_ (i := 12) (N := some 36) (v := undef) (a' := ?_) #[true, true, true, true, true, true, true, true, true, true, true, true, true, false, false, false, false, false, false, false, false, false, false, false, false, false, false] rfl rfl (any_of HT_.out (by kernel_rfl)) (fun _ _ _ h => h) (Or.inr ⟨by rfl, rfl⟩) ?_ ?_
    rotate_left
    ·simp only [Act.put, List.setIfInBounds_toArray, List.set_cons_zero, List.set_cons_succ, i64_w, i32_w]
     rfl
    refine pure_ (i := 13) (N := some 37) (v := ?_) (a' := ?_) #[true, true, true, true, true, true, true, true, true, true, true, true, true, true, false, false, false, false, false, false, false, false, false, false, false, false, false] rfl rfl (any_of HT_.out (by kernel_rfl)) (fun _ _ _ h => h) (Or.inl ⟨by rfl, ?_⟩) ?_ ?_
    rotate_left
    ·intro w'
     go_simp
     with_reducible rfl
    rotate_left
    ·simp only [Act.put, List.setIfInBounds_toArray, List.set_cons_zero, List.set_cons_succ, i64_w, i32_w]
     rfl
    refine pure_ (i := 14) (N := some 38) (v := ?_) (a' := ?_) #[true, true, true, true, true, true, true, true, true, true, true, true, true, true, true, false, false, false, false, false, false, false, false, false, false, false, false] rfl rfl (any_of HT_.out (by kernel_rfl)) (fun _ _ _ h => h) (Or.inl ⟨by rfl, ?_⟩) ?_ ?_
    rotate_left
    ·intro w'
     go_simp
     with_reducible rfl
    rotate_left
    ·simp only [Act.put, List.setIfInBounds_toArray, List.set_cons_zero, List.set_cons_succ, i64_w, i32_w]
     rfl
    refine pure_ (i := 15) (N := some 39) (v := undef) (a' := ?_) #[true, true, true, true, true, true, true, true, true, true, true, true, true, true, true, true, false, false, false, false, false, false, false, false, false, false, false] rfl rfl (any_of HT_.out (by kernel_rfl)) (fun _ _ _ h => h) (Or.inr ⟨by rfl, rfl⟩) ?_ ?_
    rotate_left
    ·simp only [Act.put, List.setIfInBounds_toArray, List.set_cons_zero, List.set_cons_succ, i64_w, i32_w]
     rfl
    refine pure_ (i := 16) (N := some 40) (v := undef) (a' := ?_) #[true, true, true, true, true, true, true, true, true, true, true, true, true, true, true, true, true, false, false, false, false, false, false, false, false, false, false] rfl rfl (any_of HT_.out (by kernel_rfl)) (fun _ _ _ h => h) (Or.inr ⟨by rfl, rfl⟩) ?_ ?_
    rotate_left
    ·simp only [Act.put, List.setIfInBounds_toArray, List.set_cons_zero, List.set_cons_succ, i64_w, i32_w]
     rfl
    refine pure_ (i := 17) (N := some 41) (v := undef) (a' := ?_) #[true, true, true, true, true, true, true, true, true, true, true, true, true, true, true, true, true, true, false, false, false, false, false, false, false, false, false] rfl rfl (any_of HT_.out (by kernel_rfl)) (fun _ _ _ h => h) (Or.inr ⟨by rfl, rfl⟩) ?_ ?_
    rotate_left
    ·simp only [Act.put, List.setIfInBounds_toArray, List.set_cons_zero, List.set_cons_succ, i64_w, i32_w]
     rfl
    refine pure_ (i := 18) (N := some 42) (v := undef) (a' := ?_) #[true, true, true, true, true, true, true, true, true, true, true, true, true, true, true, true, true, true, true, false, false, false, false, false, false, false, false] rfl rfl (any_of HT_.out (by kernel_rfl)) (fun _ _ _ h => h) (Or.inr ⟨by rfl, rfl⟩) ?_ ?_
    rotate_left
    ·simp only [Act.put, List.setIfInBounds_toArray, List.set_cons_zero, List.set_cons_succ, i64_w, i32_w]
     rfl
    refine pure_ (i := 19) (N := some 43) (v := ?_) (a' := ?_) #[true, true, true, true, true, true, true, true, true, true, true, true, true, true, true, true, true, true, true, true, false, false, false, false, false, false, false] rfl rfl (any_of HT_.out (by kernel_rfl)) (fun _ _ _ h => h) (Or.inl ⟨by rfl, ?_⟩) ?_ ?_
    rotate_left
    ·intro w'
     go_simp
     with_reducible rfl
    rotate_left
    ·simp only [Act.put, List.setIfInBounds_toArray, List.set_cons_zero, List.set_cons_succ, i64_w, i32_w]
     rfl
    refine pure_ (i := 20) (N := some 44) (v := ?_) (a' := ?_) #[true, true, true, true, true, true, true, true, true, true, true, true, true, true, true, true, true, true, true, true, true, false, false, false, false, false, false] rfl rfl (any_of HT_.out (by kernel_rfl)) (fun _ _ _ h => h) (Or.inl ⟨by rfl, ?_⟩) ?_ ?_
    rotate_left
    ·intro w'
     go_simp
     with_reducible rfl
    rotate_left
    ·simp only [Act.put, List.setIfInBounds_toArray, List.set_cons_zero, List.set_cons_succ, i64_w, i32_w]
     rfl
    refine pure_ (i := 21) (N := some 45) (v := undef) (a' := ?_) #[true, true, true, true, true, true, true, true, true, true, true, true, true, true, true, true, true, true, true, true, true, true, false, false, false, false, false] rfl rfl (any_of HT_.out (by kernel_rfl)) (fun _ _ _ h => h) (Or.inr ⟨by rfl, rfl⟩) ?_ ?_
    rotate_left
    ·simp only [Act.put, List.setIfInBounds_toArray, List.set_cons_zero, List.set_cons_succ, i64_w, i32_w]
     rfl
    refine pure_ (i := 22) (N := some 46) (v := undef) (a' := ?_) #[true, true, true, true, true, true, true, true, true, true, true, true, true, true, true, true, true, true, true, true, true, true, true, false, false, false, false] rfl rfl (any_of HT_.out (by kernel_rfl)) (fun _ _ _ h => h) (Or.inr ⟨by rfl, rfl⟩) ?_ ?_
    rotate_left
    ·simp only [Act.put, List.setIfInBounds_toArray, List.set_cons_zero, List.set_cons_succ, i64_w, i32_w]
     rfl
    refine pure_ (i := 23) (N := some 47) (v := undef) (a' := ?_) #[true, true, true, true, true, true, true, true, true, true, true, true, true, true, true, true, true, true, true, true, true, true, true, true, false, false, false] rfl rfl (any_of HT_.out (by kernel_rfl)) (fun _ _ _ h => h) (Or.inr ⟨by rfl, rfl⟩) ?_ ?_
    rotate_left
    ·simp only [Act.put, List.setIfInBounds_toArray, List.set_cons_zero, List.set_cons_succ, i64_w, i32_w]
     rfl
    refine pure_ (i := 24) (N := some 48) (v := undef) (a' := ?_) #[true, true, true, true, true, true, true, true, true, true, true, true, true, true, true, true, true, true, true, true, true, true, true, true, true, false, false] rfl rfl (any_of HT_.out (by kernel_rfl)) (fun _ _ _ h => h) (Or.inr ⟨by rfl, rfl⟩) ?_ ?_
    rotate_left
    ·simp only [Act.put, List.setIfInBounds_toArray, List.set_cons_zero, List.set_cons_succ, i64_w, i32_w]
     rfl
    refine pure_ (i := 25) (N := some 49) (v := undef) (a' := ?_) #[true, true, true, true, true, true, true, true, true, true, true, true, true, true, true, true, true, true, true, true, true, true, true, true, true, true, false] rfl rfl (any_of HT_.out (by kernel_rfl)) (fun _ _ _ h => h) (Or.inr ⟨by rfl, rfl⟩) ?_ ?_
    rotate_left
    ·simp only [Act.put, List.setIfInBounds_toArray, List.set_cons_zero, List.set_cons_succ, i64_w, i32_w]
     rfl
    refine pure_ (i := 26) (N := some 50) (v := ?_) (a' := ?_) #[true, true, true, true, true, true, true, true, true, true, true, true, true, true, true, true, true, true, true, true, true, true, true, true, true, true, true] rfl rfl (any_of HT_.out (by kernel_rfl)) (fun _ _ _ h => h) (Or.inl ⟨by rfl, ?_⟩) ?_ ?_
    rotate_left
    ·intro w'
     go_simp
     with_reducible rfl
    rotate_left
    ·simp only [Act.put, List.setIfInBounds_toArray, List.set_cons_zero, List.set_cons_succ, i64_w, i32_w]
     rfl
    refine done_ (done_of HT_.out (by kernel_rfl)) ?_
    try go_wp2
    go_meet
    case rel => exact ⟨_, (true), (by (rfl)), H', ⟨by (omega)⟩, ⟨by exact HO171.out⟩, ⟨by exact HO177.out⟩, ⟨by exact HO183.out⟩, ⟨by exact BK159.out⟩, ⟨by exact BK160.out⟩, ⟨by exact BK161.out⟩, ⟨by exact BK162.out⟩, ⟨by exact BK163.out⟩, ⟨by repeat ((with_reducible (exact HB.out)))⟩⟩
   ·rw [if_neg c40] at H
    have c40b0 : (t184 != t185) = false := by simpa using c40
    (try (have c40b1 : decide (t184 = t185) = true := by simpa using c40))
    (try (have c40b2 : (t184 == t185) = true := by simpa using c40))
    clear c40
    ((skip))
    replace H := Option.bind_eq_some_iff.mp H
    obtain ⟨t186, A450, H⟩ := H
    have A45 := Aside0.mk A450
    clear A450
    replace H := Option.bind_eq_some_iff.mp H
    obtain ⟨t187, A460, H⟩ := H
    have A46 := Aside0.mk A460
    clear A460
    by_cases c47 : (t186 != t187) = true
    ·rw [if_pos c47] at H
     have c47b0 : (t186 != t187) = true := c47
     (try (have c47b1 : decide (t186 = t187) = false := by simpa using c47))
     (try (have c47b2 : (t186 == t187) = false := by simpa using c47))
     (try (have c47b3 : ¬ (t186 = t187) := by simpa using c47))
     clear c47
     have H' := Aside0.mk H
     clear H
     try go_wp2
     generalize w24 = w48 at HO171 HO177 HO183 BK159 BK160 BK161 BK162 BK163 HB ⊢
     have n0_ := Aside0.mk (Kd.R_drew HO171.out)
     have n1_ := Aside0.mk (Kd.R_drew HO177.out)
     have n2_ := Aside0.mk (Kd.R_drew HO183.out)
     have n3_ := Aside0.mk (blk_drew BK159.out)
     have n4_ := Aside0.mk (blk_drew BK160.out)
     have n5_ := Aside0.mk (blk_drew BK161.out)
     have n6_ := Aside0.mk (blk_drew BK162.out)
     have n7_ := Aside0.mk (blk_drew BK163.out)
     have n8_ := Aside0.mk (below_drew1 HB.out)
     clear HO171
     clear HO177
     clear HO183
     clear BK159
     clear BK160
     clear BK161
     clear BK162
     clear BK163
     clear HB
     have HO171 := n0_
     have HO177 := n1_
     have HO183 := n2_
     have BK159 := n3_
     have BK160 := n4_
     have BK161 := n5_
     have BK162 := n6_
     have BK163 := n7_
     have HB := n8_
     clear n0_ n1_ n2_ n3_ n4_ n5_ n6_ n7_ n8_
     refine start_ (n := 27) (S := fun w' => w'.cell? ⟨gb159, 0, none⟩ = some (.int .i64 t165) ∧ w'.cell? ⟨gb159, 1, none⟩ = some (.int .i64 t166) ∧ w'.cell? ⟨gb159, 2, none⟩ = some (.int .i64 t167) ∧ w'.cell? ⟨gb159, 3, none⟩ = some (.int .i64 t168) ∧ w'.cell? ⟨gb159, 4, none⟩ = some (.slice Ao26 t169.length co26) ∧ w'.cell? ⟨gb160, 0, none⟩ = some (.int .i64 t172) ∧ w'.cell? ⟨gb160, 1, none⟩ = some (.int .i64 t173) ∧ w'.cell? ⟨gb160, 2, none⟩ = some (.int .i64 t174) ∧ w'.cell? ⟨gb160, 3, none⟩ = some (.slice Ao31 t175.length co31) ∧ w'.cell? ⟨gb161, 0, none⟩ = some (.int .i64 t178) ∧ w'.cell? ⟨gb161, 1, none⟩ = some (.int .i64 t179) ∧ w'.cell? ⟨gb161, 2, none⟩ = some (.int .i64 t180) ∧ w'.cell? ⟨gb161, 3, none⟩ = some (.slice Ao36 t181.length co36)) (ds := []) #[false, false, false, false, false, false, false, false, false, false, false, false, false, false, false, false, false, false, false, false, false, false, false, false, false, false, false] (by kernel_rfl) rfl rfl ⟨(blk_cell BK159.out 0).trans rfl, (blk_cell BK159.out 1).trans rfl, (blk_cell BK159.out 2).trans rfl, (blk_cell BK159.out 3).trans rfl, (blk_cell BK159.out 4).trans rfl, (blk_cell BK160.out 0).trans rfl, (blk_cell BK160.out 1).trans rfl, (blk_cell BK160.out 2).trans rfl, (blk_cell BK160.out 3).trans rfl, (blk_cell BK161.out 0).trans rfl, (blk_cell BK161.out 1).trans rfl, (blk_cell BK161.out 2).trans rfl, (blk_cell BK161.out 3).trans rfl⟩ (fun hHeld => ?_); refine with_tabW hortatorlaw7_RuleAll.tab5 hortatorlaw7_RuleAll.bits5 (fun HT_ HW_ => ?_)
     generalize w48.drew = w49 at HO171 HO177 HO183 BK159 BK160 BK161 BK162 BK163 HB hHeld ⊢
     refine take_ (i := 0) (N := some 24) (v := ?_) (a' := ?_) #[true, false, false, false, false, false, false, false, false, false, false, false, false, false, false, false, false, false, false, false, false, false, false, false, false, false, false] rfl rfl (take_ofW HT_.out HW_.out (by kernel_rfl)) (fun _ _ _ h => h) (Or.inl ⟨by rfl, ?_⟩) hHeld ?_ ?_
     rotate_left
     ·rintro w' ⟨s0, s1, s2, s3, s4, s5, s6, s7, s8, s9, s10, s11, s12⟩
      go_simp
      with_reducible rfl
     rotate_left
     ·simp only [Act.put, List.setIfInBounds_toArray, List.set_cons_zero, List.set_cons_succ, i64_w, i32_w]
      rfl
     refine take_ (i := 2) (N := some 26) (v := ?_) (a' := ?_) #[true, false, true, false, false, false, false, false, false, false, false, false, false, false, false, false, false, false, false, false, false, false, false, false, false, false, false] rfl rfl (take_ofW HT_.out HW_.out (by kernel_rfl)) (fun _ _ _ h => h) (Or.inl ⟨by rfl, ?_⟩) hHeld ?_ ?_
     rotate_left
     ·rintro w' ⟨s0, s1, s2, s3, s4, s5, s6, s7, s8, s9, s10, s11, s12⟩
      go_simp
      with_reducible rfl
     rotate_left
     ·simp only [Act.put, List.setIfInBounds_toArray, List.set_cons_zero, List.set_cons_succ, i64_w, i32_w]
      rfl
     refine one_ (i := 1) (N := some 25) #[true, true, true, false, false, false, false, false, false, false, false, false, false, false, false, false, false, false, false, false, false, false, false, false, false, false, false] rfl rfl (one_of HT_.out (by kernel_rfl)) (by decide) (fun K hK => ?_)
     refine goes_ Tryz.func16 (by kernel_rfl) rfl #[.agg #[.int .i64 t165, .int .i64 t166, .int .i64 t167, .int .i64 t168, .slice Ao26 t169.length co26]] (by rfl) rfl rfl (by (try simp only [List.map_toArray, List.map_cons, List.map_nil]); (rfl)) ?_
     with_reducible refine (rule_Config.calls t165 t166 t167 t168 _ _ t169 t184 _ ?side1 ?side2 A38.out).mono ?_
     (case side1 => repeat ((exact (Kd.R_reads' HO171.out).2.2)))
     (case side2 => exact (Kd.R_reads' HO171.out).2.1)
     rintro e w50 ⟨rfl, hb⟩
     refine ⟨_, rfl, ?_⟩
     have n0_ := Aside0.mk (Kd.R_below (by exact HO171.out) hb)
     have n1_ := Aside0.mk (Kd.R_below (by exact HO177.out) hb)
     have n2_ := Aside0.mk (Kd.R_below (by exact HO183.out) hb)
     have n3_ := Aside0.mk (blk_below (g := gb159) (o := .cells #[.int .i64 t165, .int .i64 t166, .int .i64 t167, .int .i64 t168, .slice Ao26 t169.length co26] 24 (0, 0)) (by exact BK159.out) hb)
     have n4_ := Aside0.mk (blk_below (g := gb160) (o := .cells #[.int .i64 t172, .int .i64 t173, .int .i64 t174, .slice Ao31 t175.length co31] 27 (0, 0)) (by exact BK160.out) hb)
     have n5_ := Aside0.mk (blk_below (g := gb161) (o := .cells #[.int .i64 t178, .int .i64 t179, .int .i64 t180, .slice Ao36 t181.length co36] 27 (0, 0)) (by exact BK161.out) hb)
     have n6_ := Aside0.mk (blk_below (g := gb162) (o := .cells #[.int .i64 a3_0, .int .i64 a3_1, .int .i64 a3_2] 29 (0, 0)) (by exact BK162.out) hb)
     have n7_ := Aside0.mk (blk_below (g := gb163) (o := .cells #[.int .i64 a4_0, .int .i64 a4_1, .int .i64 a4_2, .int .i64 a4_3] 31 (0, 0)) (by exact BK163.out) hb)
     have n8_ := Aside0.mk (below_step (by repeat ((with_reducible (exact HB.out)))) hb)
     clear HO171
     clear HO177
     clear HO183
     clear BK159
     clear BK160
     clear BK161
     clear BK162
     clear BK163
     clear HB
     have HO171 := n0_
     have HO177 := n1_
     have HO183 := n2_
     have BK159 := n3_
     have BK160 := n4_
     have BK161 := n5_
     have BK162 := n6_
     have BK163 := n7_
     have HB := n8_
     clear n0_ n1_ n2_ n3_ n4_ n5_ n6_ n7_ n8_
     (try clear hb)
     (try clear hb2)
     (try clear hk)
     (try clear hi)
     refine hK.out _ _ ⟨(blk_cell BK159.out 0).trans rfl, (blk_cell BK159.out 1).trans rfl, (blk_cell BK159.out 2).trans rfl, (blk_cell BK159.out 3).trans rfl, (blk_cell BK159.out 4).trans rfl, (blk_cell BK160.out 0).trans rfl, (blk_cell BK160.out 1).trans rfl, (blk_cell BK160.out 2).trans rfl, (blk_cell BK160.out 3).trans rfl, (blk_cell BK161.out 0).trans rfl, (blk_cell BK161.out 1).trans rfl, (blk_cell BK161.out 2).trans rfl, (blk_cell BK161.out 3).trans rfl⟩ (fun hHeld => ?_)
     clear hK K
     refine norm_ (a' := ?_) ?_ ?_
     rotate_left
     ·show Act.put _ (some 25) _ = _
      simp only [Act.put, List.setIfInBounds_toArray, List.set_cons_zero, List.set_cons_succ, i64_w, i32_w]
      rfl
     refine one_ (i := 3) (N := some 27) #[true, true, true, true, false, false, false, false, false, false, false, false, false, false, false, false, false, false, false, false, false, false, false, false, false, false, false] rfl rfl (one_of HT_.out (by kernel_rfl)) (by decide) (fun K hK => ?_)
     refine goes_ Tryz.func17 (by kernel_rfl) rfl #[.agg #[.int .i64 t165, .int .i64 t166, .int .i64 t167, .int .i64 t168, .slice Ao26 t169.length co26]] (by rfl) rfl rfl (by (try simp only [List.map_toArray, List.map_cons, List.map_nil]); (rfl)) ?_
     with_reducible refine (hortatorref7_Config.calls k t165 t166 t167 t168 _ _ t169 t185 _ ?side1 ?side2 A39.out).mono ?_
     (case side1 => repeat ((exact (Kd.R_reads' HO171.out).2.2)))
     (case side2 => exact (Kd.R_reads' HO171.out).2.1)
     rintro e w51 ⟨rfl, hb⟩
     refine ⟨_, rfl, ?_⟩
     have n0_ := Aside0.mk (Kd.R_below (by exact HO171.out) hb)
     have n1_ := Aside0.mk (Kd.R_below (by exact HO177.out) hb)
     have n2_ := Aside0.mk (Kd.R_below (by exact HO183.out) hb)
     have n3_ := Aside0.mk (blk_below (g := gb159) (o := .cells #[.int .i64 t165, .int .i64 t166, .int .i64 t167, .int .i64 t168, .slice Ao26 t169.length co26] 24 (0, 0)) (by exact BK159.out) hb)
     have n4_ := Aside0.mk (blk_below (g := gb160) (o := .cells #[.int .i64 t172, .int .i64 t173, .int .i64 t174, .slice Ao31 t175.length co31] 27 (0, 0)) (by exact BK160.out) hb)
     have n5_ := Aside0.mk (blk_below (g := gb161) (o := .cells #[.int .i64 t178, .int .i64 t179, .int .i64 t180, .slice Ao36 t181.length co36] 27 (0, 0)) (by exact BK161.out) hb)
     have n6_ := Aside0.mk (blk_below (g := gb162) (o := .cells #[.int .i64 a3_0, .int .i64 a3_1, .int .i64 a3_2] 29 (0, 0)) (by exact BK162.out) hb)
     have n7_ := Aside0.mk (blk_below (g := gb163) (o := .cells #[.int .i64 a4_0, .int .i64 a4_1, .int .i64 a4_2, .int .i64 a4_3] 31 (0, 0)) (by exact BK163.out) hb)
     have n8_ := Aside0.mk (below_step (by repeat ((with_reducible (exact HB.out)))) hb)
     clear HO171
     clear HO177
     clear HO183
     clear BK159
     clear BK160
     clear BK161
     clear BK162
     clear BK163
     clear HB
     have HO171 := n0_
     have HO177 := n1_
     have HO183 := n2_
     have BK159 := n3_
     have BK160 := n4_
     have BK161 := n5_
     have BK162 := n6_
     have BK163 := n7_
     have HB := n8_
     clear n0_ n1_ n2_ n3_ n4_ n5_ n6_ n7_ n8_
     (try clear hb)
     (try clear hb2)
     (try clear hk)
     (try clear hi)
     refine hK.out _ _ ⟨(blk_cell BK159.out 0).trans rfl, (blk_cell BK159.out 1).trans rfl, (blk_cell BK159.out 2).trans rfl, (blk_cell BK159.out 3).trans rfl, (blk_cell BK159.out 4).trans rfl, (blk_cell BK160.out 0).trans rfl, (blk_cell BK160.out 1).trans rfl, (blk_cell BK160.out 2).trans rfl, (blk_cell BK160.out 3).trans rfl, (blk_cell BK161.out 0).trans rfl, (blk_cell BK161.out 1).trans rfl, (blk_cell BK161.out 2).trans rfl, (blk_cell BK161.out 3).trans rfl⟩ (fun hHeld => ?_)
     clear hK K
     refine norm_ (a' := ?_) ?_ ?_
     rotate_left
     ·show Act.put _ (some 27) _ = _
      simp only [Act.put, List.setIfInBounds_toArray, List.set_cons_zero, List.set_cons_succ, i64_w, i32_w]
      rfl
     refine pure_ (i := 4) (N := some 28) (v := ?_) (a' := ?_) #[true, true, true, true, true, false, false, false, false, false, false, false, false, false, false, false, false, false, false, false, false, false, false, false, false, false, false] rfl rfl (any_of HT_.out (by kernel_rfl)) (fun _ _ _ h => h) (Or.inl ⟨by rfl, ?_⟩) ?_ ?_
     rotate_left
     ·intro w'
      go_simp
      with_reducible rfl
     rotate_left
     ·simp only [Act.put, List.setIfInBounds_toArray, List.set_cons_zero, List.set_cons_succ, i64_w, i32_w]
      rfl
     refine pure_ (i := 5) (N := some 29) (v := ?_) (a' := ?_) #[true, true, true, true, true, true, false, false, false, false, false, false, false, false, false, false, false, false, false, false, false, false, false, false, false, false, false] rfl rfl (any_of HT_.out (by kernel_rfl)) (fun _ _ _ h => h) (Or.inl ⟨by rfl, ?_⟩) ?_ ?_
     rotate_left
     ·intro w'
      go_simp
      with_reducible rfl
     rotate_left
     ·simp only [Act.put, List.setIfInBounds_toArray, List.set_cons_zero, List.set_cons_succ, i64_w, i32_w]
      rfl
     refine take_ (i := 6) (N := some 30) (v := ?_) (a' := ?_) #[true, true, true, true, true, true, true, false, false, false, false, false, false, false, false, false, false, false, false, false, false, false, false, false, false, false, false] rfl rfl (take_ofW HT_.out HW_.out (by kernel_rfl)) (fun _ _ _ h => h) (Or.inl ⟨by rfl, ?_⟩) hHeld ?_ ?_
     rotate_left
     ·rintro w' ⟨s0, s1, s2, s3, s4, s5, s6, s7, s8, s9, s10, s11, s12⟩
      go_simp
      with_reducible rfl
     rotate_left
     ·simp only [Act.put, List.setIfInBounds_toArray, List.set_cons_zero, List.set_cons_succ, i64_w, i32_w]
      rfl
     refine take_ (i := 7) (N := some 31) (v := ?_) (a' := ?_) #[true, true, true, true, true, true, true, true, false, false, false, false, false, false, false, false, false, false, false, false, false, false, false, false, false, false, false] rfl rfl (take_ofW HT_.out HW_.out (by kernel_rfl)) (fun _ _ _ h => h) (Or.inl ⟨by rfl, ?_⟩) hHeld ?_ ?_
     rotate_left
     ·rintro w' ⟨s0, s1, s2, s3, s4, s5, s6, s7, s8, s9, s10, s11, s12⟩
      go_simp
      with_reducible rfl
     rotate_left
     ·simp only [Act.put, List.setIfInBounds_toArray, List.set_cons_zero, List.set_cons_succ, i64_w, i32_w]
      rfl
     refine take_ (i := 9) (N := some 33) (v := ?_) (a' := ?_) #[true, true, true, true, true, true, true, true, false, true, false, false, false, false, false, false, false, false, false, false, false, false, false, false, false, false, false] rfl rfl (take_ofW HT_.out HW_.out (by kernel_rfl)) (fun _ _ _ h => h) (Or.inl ⟨by rfl, ?_⟩) hHeld ?_ ?_
     rotate_left
     ·rintro w' ⟨s0, s1, s2, s3, s4, s5, s6, s7, s8, s9, s10, s11, s12⟩
      go_simp
      with_reducible rfl
     rotate_left
     ·simp only [Act.put, List.setIfInBounds_toArray, List.set_cons_zero, List.set_cons_succ, i64_w, i32_w]
      rfl
     refine take_ (i := 10) (N := some 34) (v := ?_) (a' := ?_) #[true, true, true, true, true, true, true, true, false, true, true, false, false, false, false, false, false, false, false, false, false, false, false, false, false, false, false] rfl rfl (take_ofW HT_.out HW_.out (by kernel_rfl)) (fun _ _ _ h => h) (Or.inl ⟨by rfl, ?_⟩) hHeld ?_ ?_
     rotate_left
     ·rintro w' ⟨s0, s1, s2, s3, s4, s5, s6, s7, s8, s9, s10, s11, s12⟩
      go_simp
      with_reducible rfl
     rotate_left
     ·simp only [Act.put, List.setIfInBounds_toArray, List.set_cons_zero, List.set_cons_succ, i64_w, i32_w]
      rfl
     refine one_ (i := 8) (N := some 32) #[true, true, true, true, true, true, true, true, true, true, true, false, false, false, false, false, false, false, false, false, false, false, false, false, false, false, false] rfl rfl (one_of HT_.out (by kernel_rfl)) (by decide) (fun K hK => ?_)
     refine goes_ Tryz.func18 (by kernel_rfl) rfl #[.agg #[.int .i64 t172, .int .i64 t173, .int .i64 t174, .slice Ao31 t175.length co31], .agg #[.int .i64 t178, .int .i64 t179, .int .i64 t180, .slice Ao36 t181.length co36]] (by rfl) rfl rfl (by (try simp only [List.map_toArray, List.map_cons, List.map_nil]); (rfl)) ?_
     with_reducible refine (rule_Same.calls k t172 t173 t174 _ _ t175 t178 t179 t180 _ _ t181 t186 _ ?side1 ?side2 ?side3 ?side4 A45.out).mono ?_
     (case side1 => repeat ((exact (Kd.R_reads' HO177.out).2.2)))
     (case side2 => exact (Kd.R_reads' HO177.out).2.1)
     (case side3 => repeat ((exact (Kd.R_reads' HO183.out).2.2)))
     (case side4 => exact (Kd.R_reads' HO183.out).2.1)
     rintro e w52 ⟨rfl, hb⟩
     refine ⟨_, rfl, ?_⟩
     have n0_ := Aside0.mk (Kd.R_below (by exact HO171.out) hb)
     have n1_ := Aside0.mk (Kd.R_below (by exact HO177.out) hb)
     have n2_ := Aside0.mk (Kd.R_below (by exact HO183.out) hb)
     have n3_ := Aside0.mk (blk_below (g := gb159) (o := .cells #[.int .i64 t165, .int .i64 t166, .int .i64 t167, .int .i64 t168, .slice Ao26 t169.length co26] 24 (0, 0)) (by exact BK159.out) hb)
     have n4_ := Aside0.mk (blk_below (g := gb160) (o := .cells #[.int .i64 t172, .int .i64 t173, .int .i64 t174, .slice Ao31 t175.length co31] 27 (0, 0)) (by exact BK160.out) hb)
     have n5_ := Aside0.mk (blk_below (g := gb161) (o := .cells #[.int .i64 t178, .int .i64 t179, .int .i64 t180, .slice Ao36 t181.length co36] 27 (0, 0)) (by exact BK161.out) hb)
     have n6_ := Aside0.mk (blk_below (g := gb162) (o := .cells #[.int .i64 a3_0, .int .i64 a3_1, .int .i64 a3_2] 29 (0, 0)) (by exact BK162.out) hb)
     have n7_ := Aside0.mk (blk_below (g := gb163) (o := .cells #[.int .i64 a4_0, .int .i64 a4_1, .int .i64 a4_2, .int .i64 a4_3] 31 (0, 0)) (by exact BK163.out) hb)
     have n8_ := Aside0.mk (below_step (by repeat ((with_reducible (exact HB.out)))) hb)
     clear HO171
     clear HO177
     clear HO183
     clear BK159
     clear BK160
     clear BK161
     clear BK162
     clear BK163
     clear HB
     have HO171 := n0_
     have HO177 := n1_
     have HO183 := n2_
     have BK159 := n3_
     have BK160 := n4_
     have BK161 := n5_
     have BK162 := n6_
     have BK163 := n7_
     have HB := n8_
     clear n0_ n1_ n2_ n3_ n4_ n5_ n6_ n7_ n8_
     (try clear hb)
     (try clear hb2)
     (try clear hk)
     (try clear hi)
     refine hK.out _ _ ⟨(blk_cell BK159.out 0).trans rfl, (blk_cell BK159.out 1).trans rfl, (blk_cell BK159.out 2).trans rfl, (blk_cell BK159.out 3).trans rfl, (blk_cell BK159.out 4).trans rfl, (blk_cell BK160.out 0).trans rfl, (blk_cell BK160.out 1).trans rfl, (blk_cell BK160.out 2).trans rfl, (blk_cell BK160.out 3).trans rfl, (blk_cell BK161.out 0).trans rfl, (blk_cell BK161.out 1).trans rfl, (blk_cell BK161.out 2).trans rfl, (blk_cell BK161.out 3).trans rfl⟩ (fun hHeld => ?_)
     clear hK K
     refine norm_ (a' := ?_) ?_ ?_
     rotate_left
     ·show Act.put _ (some 32) _ = _
      simp only [Act.put, List.setIfInBounds_toArray, List.set_cons_zero, List.set_cons_succ, i64_w, i32_w]
      rfl
     refine one_ (i := 11) (N := some 35) #[true, true, true, true, true, true, true, true, true, true, true, true, false, false, false, false, false, false, false, false, false, false, false, false, false, false, false] rfl rfl (one_of HT_.out (by kernel_rfl)) (by decide) (fun K hK => ?_)
     refine goes_ Tryz.func19 (by kernel_rfl) rfl #[.agg #[.int .i64 t172, .int .i64 t173, .int .i64 t174, .slice Ao31 t175.length co31], .agg #[.int .i64 t178, .int .i64 t179, .int .i64 t180, .slice Ao36 t181.length co36]] (by rfl) rfl rfl (by (try simp only [List.map_toArray, List.map_cons, List.map_nil]); (rfl)) ?_
     with_reducible refine (hortatorref7_Same.calls k t172 t173 t174 _ _ t175 t178 t179 t180 _ _ t181 t187 _ ?side1 ?side2 ?side3 ?side4 A46.out).mono ?_
     (case side1 => repeat ((exact (Kd.R_reads' HO177.out).2.2)))
     (case side2 => exact (Kd.R_reads' HO177.out).2.1)
     (case side3 => repeat ((exact (Kd.R_reads' HO183.out).2.2)))
     (case side4 => exact (Kd.R_reads' HO183.out).2.1)
     rintro e w53 ⟨rfl, hb⟩
     refine ⟨_, rfl, ?_⟩
     have n0_ := Aside0.mk (Kd.R_below (by exact HO171.out) hb)
     have n1_ := Aside0.mk (Kd.R_below (by exact HO177.out) hb)
     have n2_ := Aside0.mk (Kd.R_below (by exact HO183.out) hb)
     have n3_ := Aside0.mk (blk_below (g := gb159) (o := .cells #[.int .i64 t165, .int .i64 t166, .int .i64 t167, .int .i64 t168, .slice Ao26 t169.length co26] 24 (0, 0)) (by exact BK159.out) hb)
     have n4_ := Aside0.mk (blk_below (g := gb160) (o := .cells #[.int .i64 t172, .int .i64 t173, .int .i64 t174, .slice Ao31 t175.length co31] 27 (0, 0)) (by exact BK160.out) hb)
     have n5_ := Aside0.mk (blk_below (g := gb161) (o := .cells #[.int .i64 t178, .int .i64 t179, .int .i64 t180, .slice Ao36 t181.length co36] 27 (0, 0)) (by exact BK161.out) hb)
     have n6_ := Aside0.mk (blk_below (g := gb162) (o := .cells #[.int .i64 a3_0, .int .i64 a3_1, .int .i64 a3_2] 29 (0, 0)) (by exact BK162.out) hb)
     have n7_ := Aside0.mk (blk_below (g := gb163) (o := .cells #[.int .i64 a4_0, .int .i64 a4_1, .int .i64 a4_2, .int .i64 a4_3] 31 (0, 0)) (by exact BK163.out) hb)
     have n8_ := Aside0.mk (below_step (by repeat ((with_reducible (exact HB.out)))) hb)
     clear HO171
     clear HO177
     clear HO183
     clear BK159
     clear BK160
     clear BK161
     clear BK162
     clear BK163
     clear HB
     have HO171 := n0_
     have HO177 := n1_
     have HO183 := n2_
     have BK159 := n3_
     have BK160 := n4_
     have BK161 := n5_
     have BK162 := n6_
     have BK163 := n7_
     have HB := n8_
     clear n0_ n1_ n2_ n3_ n4_ n5_ n6_ n7_ n8_
     (try clear hb)
     (try clear hb2)
     (try clear hk)
     (try clear hi)
     refine hK.out _ _ ⟨(blk_cell BK159.out 0).trans rfl, (blk_cell BK159.out 1).trans rfl, (blk_cell BK159.out 2).trans rfl, (blk_cell BK159.out 3).trans rfl, (blk_cell BK159.out 4).trans rfl, (blk_cell BK160.out 0).trans rfl, (blk_cell BK160.out 1).trans rfl, (blk_cell BK160.out 2).trans rfl, (blk_cell BK160.out 3).trans rfl, (blk_cell BK161.out 0).trans rfl, (blk_cell BK161.out 1).trans rfl, (blk_cell BK161.out 2).trans rfl, (blk_cell BK161.out 3).trans rfl⟩ (fun hHeld => ?_)
     clear hK K
     refine norm_ (a' := ?_) ?_ ?_
     rotate_left
     ·show Act.put _ (some 35) _ = _
      simp only [Act.put, List.setIfInBounds_toArray, List.set_cons_zero, List.set_cons_succ, i64_w, i32_w]
      rfl
     refine pure_ (i := 12) (N := some 36) (v := ?_) (a' := ?_) #[true, true, true, true, true, true, true, true, true, true, true, true, true, false, false, false, false, false, false, false, false, false, false, false, false, false, false] rfl rfl (any_of HT_.out (by kernel_rfl)) (fun _ _ _ h => h) (Or.inl ⟨by rfl, ?_⟩) ?_ ?_
     rotate_left
     ·intro w'
      go_simp
      with_reducible rfl
     rotate_left
     ·simp only [Act.put, List.setIfInBounds_toArray, List.set_cons_zero, List.set_cons_succ, i64_w, i32_w]
      rfl
     refine pure_ (i := 13) (N := some 37) (v := ?_) (a' := ?_) #[true, true, true, true, true, true, true, true, true, true, true, true, true, true, false, false, false, false, false, false, false, false, false, false, false, false, false] rfl rfl (any_of HT_.out (by kernel_rfl)) (fun _ _ _ h => h) (Or.inl ⟨by rfl, ?_⟩) ?_ ?_
     rotate_left
     ·intro w'
      go_simp
      with_reducible rfl
     rotate_left
     ·simp only [Act.put, List.setIfInBounds_toArray, List.set_cons_zero, List.set_cons_succ, i64_w, i32_w]
      rfl
     refine pure_ (i := 14) (N := some 38) (v := ?_) (a' := ?_) #[true, true, true, true, true, true, true, true, true, true, true, true, true, true, true, false, false, false, false, false, false, false, false, false, false, false, false] rfl rfl (any_of HT_.out (by kernel_rfl)) (fun _ _ _ h => h) (Or.inl ⟨by rfl, ?_⟩) ?_ ?_
     rotate_left
     ·intro w'
      go_simp
      with_reducible rfl
     rotate_left
     ·simp only [Act.put, List.setIfInBounds_toArray, List.set_cons_zero, List.set_cons_succ, i64_w, i32_w]
      rfl
     refine pure_ (i := 15) (N := some 39) (v := undef) (a' := ?_) #[true, true, true, true, true, true, true, true, true, true, true, true, true, true, true, true, false, false, false, false, false, false, false, false, false, false, false] rfl rfl (any_of HT_.out (by kernel_rfl)) (fun _ _ _ h => h) (Or.inr ⟨by rfl, rfl⟩) ?_ ?_
     rotate_left
     ·simp only [Act.put, List.setIfInBounds_toArray, List.set_cons_zero, List.set_cons_succ, i64_w, i32_w]
      rfl
     refine pure_ (i := 16) (N := some 40) (v := undef) (a' := ?_) #[true, true, true, true, true, true, true, true, true, true, true, true, true, true, true, true, true, false, false, false, false, false, false, false, false, false, false] rfl rfl (any_of HT_.out (by kernel_rfl)) (fun _ _ _ h => h) (Or.inr ⟨by rfl, rfl⟩) ?_ ?_
     rotate_left
     ·simp only [Act.put, List.setIfInBounds_toArray, List.set_cons_zero, List.set_cons_succ, i64_w, i32_w]
      rfl
     refine pure_ (i := 17) (N := some 41) (v := undef) (a' := ?_) #[true, true, true, true, true, true, true, true, true, true, true, true, true, true, true, true, true, true, false, false, false, false, false, false, false, false, false] rfl rfl (any_of HT_.out (by kernel_rfl)) (fun _ _ _ h => h) (Or.inr ⟨by rfl, rfl⟩) ?_ ?_
     rotate_left
     ·simp only [Act.put, List.setIfInBounds_toArray, List.set_cons_zero, List.set_cons_succ, i64_w, i32_w]
      rfl
     refine pure_ (i := 18) (N := some 42) (v := undef) (a' := ?_) #[true, true, true, true, true, true, true, true, true, true, true, true, true, true, true, true, true, true, true, false, false, false, false, false, false, false, false] rfl rfl (any_of HT_.out (by kernel_rfl)) (fun _ _ _ h => h) (Or.inr ⟨by rfl, rfl⟩) ?_ ?_
     rotate_left
     ·simp only [Act.put, List.setIfInBounds_toArray, List.set_cons_zero, List.set_cons_succ, i64_w, i32_w]
      rfl
     refine pure_ (i := 19) (N := some 43) (v := ?_) (a' := ?_) #[true, true, true, true, true, true, true, true, true, true, true, true, true, true, true, true, true, true, true, true, false, false, false, false, false, false, false] rfl rfl (any_of HT_.out (by kernel_rfl)) (fun _ _ _ h => h) (Or.inl ⟨by rfl, ?_⟩) ?_ ?_
     rotate_left
     ·intro w'
      go_simp
      with_reducible rfl
     rotate_left
     ·simp only [Act.put, List.setIfInBounds_toArray, List.set_cons_zero, List.set_cons_succ, i64_w, i32_w]
      rfl
     refine pure_ (i := 20) (N := some 44) (v := ?_) (a' := ?_) #[true, true, true, true, true, true, true, true, true, true, true, true, true, true, true, true, true, true, true, true, true, false, false, false, false, false, false] rfl rfl (any_of HT_.out (by kernel_rfl)) (fun _ _ _ h => h) (Or.inl ⟨by rfl, ?_⟩) ?_ ?_
     rotate_left
     ·intro w'
      go_simp
      with_reducible rfl
     rotate_left
     ·simp only [Act.put, List.setIfInBounds_toArray, List.set_cons_zero, List.set_cons_succ, i64_w, i32_w]
      rfl
     refine pure_ (i := 21) (N := some 45) (v := undef) (a' := ?_) #[true, true, true, true, true, true, true, true, true, true, true, true, true, true, true, true, true, true, true, true, true, true, false, false, false, false, false] rfl rfl (any_of HT_.out (by kernel_rfl)) (fun _ _ _ h => h) (Or.inr ⟨by rfl, rfl⟩) ?_ ?_
     rotate_left
     ·simp only [Act.put, List.setIfInBounds_toArray, List.set_cons_zero, List.set_cons_succ, i64_w, i32_w]
      rfl
     refine pure_ (i := 22) (N := some 46) (v := undef) (a' := ?_) #[true, true, true, true, true, true, true, true, true, true, true, true, true, true, true, true, true, true, true, true, true, true, true, false, false, false, false] rfl rfl (any_of HT_.out (by kernel_rfl)) (fun _ _ _ h => h) (Or.inr ⟨by rfl, rfl⟩) ?_ ?_
     rotate_left
     ·simp only [Act.put, List.setIfInBounds_toArray, List.set_cons_zero, List.set_cons_succ, i64_w, i32_w]
      rfl
     refine pure_ (i := 23) (N := some 47) (v := undef) (a' := ?_) #[true, true, true, true, true, true, true, true, true, true, true, true, true, true, true, true, true, true, true, true, true, true, true, true, false, false, false] rfl rfl (any_of HT_.out (by kernel_rfl)) (fun _ _ _ h => h) (Or.inr ⟨by rfl, rfl⟩) ?_ ?_
     rotate_left
     ·simp only [Act.put, List.setIfInBounds_toArray, List.set_cons_zero, List.set_cons_succ, i64_w, i32_w]
      rfl
     refine pure_ (i := 24) (N := some 48) (v := undef) (a' := ?_) #[true, true, true, true, true, true, true, true, true, true, true, true, true, true, true, true, true, true, true, true, true, true, true, true, true, false, false] rfl rfl (any_of HT_.out (by kernel_rfl)) (fun _ _ _ h => h) (Or.inr ⟨by rfl, rfl⟩) ?_ ?_
     rotate_left
     ·simp only [Act.put, List.setIfInBounds_toArray, List.set_cons_zero, List.set_cons_succ, i64_w, i32_w]
      rfl
     refine pure_ (i := 25) (N := some 49) (v := undef) (a' := ?_) #[true, true, true, true, true, true, true, true, true, true, true, true, true, true, true, true, true, true, true, true, true, true, true, true, true, true, false] rfl rfl (any_of HT_.out (by kernel_rfl)) (fun _ _ _ h => h) (Or.inr ⟨by rfl, rfl⟩) ?_ ?_
     rotate_left
     ·simp only [Act.put, List.setIfInBounds_toArray, List.set_cons_zero, List.set_cons_succ, i64_w, i32_w]
      rfl
     refine pure_ (i := 26) (N := some 50) (v := ?_) (a' := ?_) #[true, true, true, true, true, true, true, true, true, true, true, true, true, true, true, true, true, true, true, true, true, true, true, true, true, true, true] rfl rfl (any_of HT_.out (by kernel_rfl)) (fun _ _ _ h => h) (Or.inl ⟨by rfl, ?_⟩) ?_ ?_
     rotate_left
     ·intro w'
      go_simp
      with_reducible rfl
     rotate_left
     ·simp only [Act.put, List.setIfInBounds_toArray, List.set_cons_zero, List.set_cons_succ, i64_w, i32_w]
      rfl
     refine done_ (done_of HT_.out (by kernel_rfl)) ?_
     try go_wp2
     go_meet
     case rel => exact ⟨_, (true), (by (rfl)), H', ⟨by (omega)⟩, ⟨by exact HO171.out⟩, ⟨by exact HO177.out⟩, ⟨by exact HO183.out⟩, ⟨by exact BK159.out⟩, ⟨by exact BK160.out⟩, ⟨by exact BK161.out⟩, ⟨by exact BK162.out⟩, ⟨by exact BK163.out⟩, ⟨by repeat ((with_reducible (exact HB.out)))⟩⟩
    ·rw [if_neg c47] at H
     have c47b0 : (t186 != t187) = false := by simpa using c47
     (try (have c47b1 : decide (t186 = t187) = true := by simpa using c47))
     (try (have c47b2 : (t186 == t187) = true := by simpa using c47))
     clear c47
     replace H := Option.bind_eq_some_iff.mp H
     obtain ⟨t188, A540, H⟩ := H
     have A54 := Aside0.mk A540
     clear A540
     by_cases c55 : t188 = true
     ·subst c55
      have H1 : ((rule_Load.f a3_0 a3_1 a3_2).bind fun t189 => ((hortatorref7_Load.f a3_0 a3_1 a3_2).bind fun t190 => (hortatorlaw7_RuleAll.j0 k (t189 != t190) t165 t166 t167 t168 t169 t172 t173 t174 t175 a4_0 a4_1 a4_2 a4_3))) = some r := by rw [if_pos rfl] at H; exact H
      clear H
      have H := H1
      clear H1
      replace H := Option.bind_eq_some_iff.mp H
      obtain ⟨t189, A560, H⟩ := H
      have A56 := Aside0.mk A560
      clear A560
      replace H := Option.bind_eq_some_iff.mp H
      obtain ⟨t190, A570, H⟩ := H
      have A57 := Aside0.mk A570
      clear A570
      have H' := Aside0.mk H
      clear H
      try go_wp2
      generalize w24 = w58 at HO171 HO177 HO183 BK159 BK160 BK161 BK162 BK163 HB ⊢
      have n0_ := Aside0.mk (Kd.R_drew HO171.out)
      have n1_ := Aside0.mk (Kd.R_drew HO177.out)
      have n2_ := Aside0.mk (Kd.R_drew HO183.out)
      have n3_ := Aside0.mk (blk_drew BK159.out)
      have n4_ := Aside0.mk (blk_drew BK160.out)
      have n5_ := Aside0.mk (blk_drew BK161.out)
      have n6_ := Aside0.mk (blk_drew BK162.out)
      have n7_ := Aside0.mk (blk_drew BK163.out)
      have n8_ := Aside0.mk (below_drew1 HB.out)
      clear HO171
      clear HO177
      clear HO183
      clear BK159
      clear BK160
      clear BK161
      clear BK162
      clear BK163
      clear HB
      have HO171 := n0_
      have HO177 := n1_
      have HO183 := n2_
      have BK159 := n3_
      have BK160 := n4_
      have BK161 := n5_
      have BK162 := n6_
      have BK163 := n7_
      have HB := n8_
      clear n0_ n1_ n2_ n3_ n4_ n5_ n6_ n7_ n8_
      refine start_ (n := 27) (S := fun w' => w'.cell? ⟨gb159, 0, none⟩ = some (.int .i64 t165) ∧ w'.cell? ⟨gb159, 1, none⟩ = some (.int .i64 t166) ∧ w'.cell? ⟨gb159, 2, none⟩ = some (.int .i64 t167) ∧ w'.cell? ⟨gb159, 3, none⟩ = some (.int .i64 t168) ∧ w'.cell? ⟨gb159, 4, none⟩ = some (.slice Ao26 t169.length co26) ∧ w'.cell? ⟨gb160, 0, none⟩ = some (.int .i64 t172) ∧ w'.cell? ⟨gb160, 1, none⟩ = some (.int .i64 t173) ∧ w'.cell? ⟨gb160, 2, none⟩ = some (.int .i64 t174) ∧ w'.cell? ⟨gb160, 3, none⟩ = some (.slice Ao31 t175.length co31) ∧ w'.cell? ⟨gb161, 0, none⟩ = some (.int .i64 t178) ∧ w'.cell? ⟨gb161, 1, none⟩ = some (.int .i64 t179) ∧ w'.cell? ⟨gb161, 2, none⟩ = some (.int .i64 t180) ∧ w'.cell? ⟨gb161, 3, none⟩ = some (.slice Ao36 t181.length co36) ∧ w'.cell? ⟨gb162, 0, none⟩ = some (.int .i64 a3_0) ∧ w'.cell? ⟨gb162, 1, none⟩ = some (.int .i64 a3_1) ∧ w'.cell? ⟨gb162, 2, none⟩ = some (.int .i64 a3_2)) (ds := []) #[false, false, false, false, false, false, false, false, false, false, false, false, false, false, false, false, false, false, false, false, false, false, false, false, false, false, false] (by kernel_rfl) rfl rfl ⟨(blk_cell BK159.out 0).trans rfl, (blk_cell BK159.out 1).trans rfl, (blk_cell BK159.out 2).trans rfl, (blk_cell BK159.out 3).trans rfl, (blk_cell BK159.out 4).trans rfl, (blk_cell BK160.out 0).trans rfl, (blk_cell BK160.out 1).trans rfl, (blk_cell BK160.out 2).trans rfl, (blk_cell BK160.out 3).trans rfl, (blk_cell BK161.out 0).trans rfl, (blk_cell BK161.out 1).trans rfl, (blk_cell BK161.out 2).trans rfl, (blk_cell BK161.out 3).trans rfl, (blk_cell BK162.out 0).trans rfl, (blk_cell BK162.out 1).trans rfl, (blk_cell BK162.out 2).trans rfl⟩ (fun hHeld => ?_); refine with_tabW hortatorlaw7_RuleAll.tab5 hortatorlaw7_RuleAll.bits5 (fun HT_ HW_ => ?_)
      generalize w58.drew = w59 at HO171 HO177 HO183 BK159 BK160 BK161 BK162 BK163 HB hHeld ⊢
      refine take_ (i := 0) (N := some 24) (v := ?_) (a' := ?_) #[true, false, false, false, false, false, false, false, false, false, false, false, false, false, false, false, false, false, false, false, false, false, false, false, false, false, false] rfl rfl (take_ofW HT_.out HW_.out (by kernel_rfl)) (fun _ _ _ h => h) (Or.inl ⟨by rfl, ?_⟩) hHeld ?_ ?_
      rotate_left
      ·rintro w' ⟨s0, s1, s2, s3, s4, s5, s6, s7, s8, s9, s10, s11, s12, s13, s14, s15⟩
       go_simp
       with_reducible rfl
      rotate_left
      ·simp only [Act.put, List.setIfInBounds_toArray, List.set_cons_zero, List.set_cons_succ, i64_w, i32_w]
       rfl
      refine take_ (i := 2) (N := some 26) (v := ?_) (a' := ?_) #[true, false, true, false, false, false, false, false, false, false, false, false, false, false, false, false, false, false, false, false, false, false, false, false, false, false, false] rfl rfl (take_ofW HT_.out HW_.out (by kernel_rfl)) (fun _ _ _ h => h) (Or.inl ⟨by rfl, ?_⟩) hHeld ?_ ?_
      rotate_left
      ·rintro w' ⟨s0, s1, s2, s3, s4, s5, s6, s7, s8, s9, s10, s11, s12, s13, s14, s15⟩
       go_simp
       with_reducible rfl
      rotate_left
      ·simp only [Act.put, List.setIfInBounds_toArray, List.set_cons_zero, List.set_cons_succ, i64_w, i32_w]
       rfl
      refine one_ (i := 1) (N := some 25) #[true, true, true, false, false, false, false, false, false, false, false, false, false, false, false, false, false, false, false, false, false, false, false, false, false, false, false] rfl rfl (one_of HT_.out (by kernel_rfl)) (by decide) (fun K hK => ?_)
      refine goes_ Tryz.func16 (by kernel_rfl) rfl #[.agg #[.int .i64 t165, .int .i64 t166, .int .i64 t167, .int .i64 t168, .slice Ao26 t169.length co26]] (by rfl) rfl rfl (by (try simp only [List.map_toArray, List.map_cons, List.map_nil]); (rfl)) ?_
      with_reducible refine (rule_Config.calls t165 t166 t167 t168 _ _ t169 t184 _ ?side1 ?side2 A38.out).mono ?_
      (case side1 => repeat ((exact (Kd.R_reads' HO171.out).2.2)))
      (case side2 => exact (Kd.R_reads' HO171.out).2.1)
      rintro e w60 ⟨rfl, hb⟩
      refine ⟨_, rfl, ?_⟩
      have n0_ := Aside0.mk (Kd.R_below (by exact HO171.out) hb)
      have n1_ := Aside0.mk (Kd.R_below (by exact HO177.out) hb)
      have n2_ := Aside0.mk (Kd.R_below (by exact HO183.out) hb)
      have n3_ := Aside0.mk (blk_below (g := gb159) (o := .cells #[.int .i64 t165, .int .i64 t166, .int .i64 t167, .int .i64 t168, .slice Ao26 t169.length co26] 24 (0, 0)) (by exact BK159.out) hb)
      have n4_ := Aside0.mk (blk_below (g := gb160) (o := .cells #[.int .i64 t172, .int .i64 t173, .int .i64 t174, .slice Ao31 t175.length co31] 27 (0, 0)) (by exact BK160.out) hb)
      have n5_ := Aside0.mk (blk_below (g := gb161) (o := .cells #[.int .i64 t178, .int .i64 t179, .int .i64 t180, .slice Ao36 t181.length co36] 27 (0, 0)) (by exact BK161.out) hb)
      have n6_ := Aside0.mk (blk_below (g := gb162) (o := .cells #[.int .i64 a3_0, .int .i64 a3_1, .int .i64 a3_2] 29 (0, 0)) (by exact BK162.out) hb)
      have n7_ := Aside0.mk (blk_below (g := gb163) (o := .cells #[.int .i64 a4_0, .int .i64 a4_1, .int .i64 a4_2, .int .i64 a4_3] 31 (0, 0)) (by exact BK163.out) hb)
      have n8_ := Aside0.mk (below_step (by repeat ((with_reducible (exact HB.out)))) hb)
      clear HO171
      clear HO177
      clear HO183
      clear BK159
      clear BK160
      clear BK161
      clear BK162
      clear BK163
      clear HB
      have HO171 := n0_
      have HO177 := n1_
      have HO183 := n2_
      have BK159 := n3_
      have BK160 := n4_
      have BK161 := n5_
      have BK162 := n6_
      have BK163 := n7_
      have HB := n8_
      clear n0_ n1_ n2_ n3_ n4_ n5_ n6_ n7_ n8_
      (try clear hb)
      (try clear hb2)
      (try clear hk)
      (try clear hi)
      refine hK.out _ _ ⟨(blk_cell BK159.out 0).trans rfl, (blk_cell BK159.out 1).trans rfl, (blk_cell BK159.out 2).trans rfl, (blk_cell BK159.out 3).trans rfl, (blk_cell BK159.out 4).trans rfl, (blk_cell BK160.out 0).trans rfl, (blk_cell BK160.out 1).trans rfl, (blk_cell BK160.out 2).trans rfl, (blk_cell BK160.out 3).trans rfl, (blk_cell BK161.out 0).trans rfl, (blk_cell BK161.out 1).trans rfl, (blk_cell BK161.out 2).trans rfl, (blk_cell BK161.out 3).trans rfl, (blk_cell BK162.out 0).trans rfl, (blk_cell BK162.out 1).trans rfl, (blk_cell BK162.out 2).trans rfl⟩ (fun hHeld => ?_)
      clear hK K
      refine norm_ (a' := ?_) ?_ ?_
      rotate_left
      ·show Act.put _ (some 25) _ = _
       simp only [Act.put, List.setIfInBounds_toArray, List.set_cons_zero, List.set_cons_succ, i64_w, i32_w]
       rfl
      refine one_ (i := 3) (N := some 27) #[true, true, true, true, false, false, false, false, false, false, false, false, false, false, false, false, false, false, false, false, false, false, false, false, false, false, false] rfl rfl (one_of HT_.out (by kernel_rfl)) (by decide) (fun K hK => ?_)
      refine goes_ Tryz.func17 (by kernel_rfl) rfl #[.agg #[.int .i64 t165, .int .i64 t166, .int .i64 t167, .int .i64 t168, .slice Ao26 t169.length co26]] (by rfl) rfl rfl (by (try simp only [List.map_toArray, List.map_cons, List.map_nil]); (rfl)) ?_
      with_reducible refine (hortatorref7_Config.calls k t165 t166 t167 t168 _ _ t169 t185 _ ?side1 ?side2 A39.out).mono ?_
      (case side1 => repeat ((exact (Kd.R_reads' HO171.out).2.2)))
      (case side2 => exact (Kd.R_reads' HO171.out).2.1)
      rintro e w61 ⟨rfl, hb⟩
      refine ⟨_, rfl, ?_⟩
      have n0_ := Aside0.mk (Kd.R_below (by exact HO171.out) hb)
      have n1_ := Aside0.mk (Kd.R_below (by exact HO177.out) hb)
      have n2_ := Aside0.mk (Kd.R_below (by exact HO183.out) hb)
      have n3_ := Aside0.mk (blk_below (g := gb159) (o := .cells #[.int .i64 t165, .int .i64 t166, .int .i64 t167, .int .i64 t168, .slice Ao26 t169.length co26] 24 (0, 0)) (by exact BK159.out) hb)
      have n4_ := Aside0.mk (blk_below (g := gb160) (o := .cells #[.int .i64 t172, .int .i64 t173, .int .i64 t174, .slice Ao31 t175.length co31] 27 (0, 0)) (by exact BK160.out) hb)
      have n5_ := Aside0.mk (blk_below (g := gb161) (o := .cells #[.int .i64 t178, .int .i64 t179, .int .i64 t180, .slice Ao36 t181.length co36] 27 (0, 0)) (by exact BK161.out) hb)
      have n6_ := Aside0.mk (blk_below (g := gb162) (o := .cells #[.int .i64 a3_0, .int .i64 a3_1, .int .i64 a3_2] 29 (0, 0)) (by exact BK162.out) hb)
      have n7_ := Aside0.mk (blk_below (g := gb163) (o := .cells #[.int .i64 a4_0, .int .i64 a4_1, .int .i64 a4_2, .int .i64 a4_3] 31 (0, 0)) (by exact BK163.out) hb)
      have n8_ := Aside0.mk (below_step (by repeat ((with_reducible (exact HB.out)))) hb)
      clear HO171
      clear HO177
      clear HO183
      clear BK159
      clear BK160
      clear BK161
      clear BK162
      clear BK163
      clear HB
      have HO171 := n0_
      have HO177 := n1_
      have HO183 := n2_
      have BK159 := n3_
      have BK160 := n4_
      have BK161 := n5_
      have BK162 := n6_
      have BK163 := n7_
      have HB := n8_
      clear n0_ n1_ n2_ n3_ n4_ n5_ n6_ n7_ n8_
      (try clear hb)
      (try clear hb2)
      (try clear hk)
      (try clear hi)
      refine hK.out _ _ ⟨(blk_cell BK159.out 0).trans rfl, (blk_cell BK159.out 1).trans rfl, (blk_cell BK159.out 2).trans rfl, (blk_cell BK159.out 3).trans rfl, (blk_cell BK159.out 4).trans rfl, (blk_cell BK160.out 0).trans rfl, (blk_cell BK160.out 1).trans rfl, (blk_cell BK160.out 2).trans rfl, (blk_cell BK160.out 3).trans rfl, (blk_cell BK161.out 0).trans rfl, (blk_cell BK161.out 1).trans rfl, (blk_cell BK161.out 2).trans rfl, (blk_cell BK161.out 3).trans rfl, (blk_cell BK162.out 0).trans rfl, (blk_cell BK162.out 1).trans rfl, (blk_cell BK162.out 2).trans rfl⟩ (fun hHeld => ?_)
      clear hK K
      refine norm_ (a' := ?_) ?_ ?_
      rotate_left
      ·show Act.put _ (some 27) _ = _
       simp only [Act.put, List.setIfInBounds_toArray, List.set_cons_zero, List.set_cons_succ, i64_w, i32_w]
       rfl
      refine pure_ (i := 4) (N := some 28) (v := ?_) (a' := ?_) #[true, true, true, true, true, false, false, false, false, false, false, false, false, false, false, false, false, false, false, false, false, false, false, false, false, false, false] rfl rfl (any_of HT_.out (by kernel_rfl)) (fun _ _ _ h => h) (Or.inl ⟨by rfl, ?_⟩) ?_ ?_
      rotate_left
      ·intro w'
       go_simp
       with_reducible rfl
      rotate_left
      ·simp only [Act.put, List.setIfInBounds_toArray, List.set_cons_zero, List.set_cons_succ, i64_w, i32_w]
       rfl
      refine pure_ (i := 5) (N := some 29) (v := ?_) (a' := ?_) #[true, true, true, true, true, true, false, false, false, false, false, false, false, false, false, false, false, false, false, false, false, false, false, false, false, false, false] rfl rfl (any_of HT_.out (by kernel_rfl)) (fun _ _ _ h => h) (Or.inl ⟨by rfl, ?_⟩) ?_ ?_
      rotate_left
      ·intro w'
       go_simp
       with_reducible rfl
      rotate_left
      ·simp only [Act.put, List.setIfInBounds_toArray, List.set_cons_zero, List.set_cons_succ, i64_w, i32_w]
       rfl
      refine take_ (i := 6) (N := some 30) (v := ?_) (a' := ?_) #[true, true, true, true, true, true, true, false, false, false, false, false, false, false, false, false, false, false, false, false, false, false, false, false, false, false, false] rfl rfl (take_ofW HT_.out HW_.out (by kernel_rfl)) (fun _ _ _ h => h) (Or.inl ⟨by rfl, ?_⟩) hHeld ?_ ?_
      rotate_left
      ·rintro w' ⟨s0, s1, s2, s3, s4, s5, s6, s7, s8, s9, s10, s11, s12, s13, s14, s15⟩
       go_simp
       with_reducible rfl
      rotate_left
      ·simp only [Act.put, List.setIfInBounds_toArray, List.set_cons_zero, List.set_cons_succ, i64_w, i32_w]
       rfl
      refine take_ (i := 7) (N := some 31) (v := ?_) (a' := ?_) #[true, true, true, true, true, true, true, true, false, false, false, false, false, false, false, false, false, false, false, false, false, false, false, false, false, false, false] rfl rfl (take_ofW HT_.out HW_.out (by kernel_rfl)) (fun _ _ _ h => h) (Or.inl ⟨by rfl, ?_⟩) hHeld ?_ ?_
      rotate_left
      ·rintro w' ⟨s0, s1, s2, s3, s4, s5, s6, s7, s8, s9, s10, s11, s12, s13, s14, s15⟩
       go_simp
       with_reducible rfl
      rotate_left
      ·simp only [Act.put, List.setIfInBounds_toArray, List.set_cons_zero, List.set_cons_succ, i64_w, i32_w]
       rfl
      refine take_ (i := 9) (N := some 33) (v := ?_) (a' := ?_) #[true, true, true, true, true, true, true, true, false, true, false, false, false, false, false, false, false, false, false, false, false, false, false, false, false, false, false] rfl rfl (take_ofW HT_.out HW_.out (by kernel_rfl)) (fun _ _ _ h => h) (Or.inl ⟨by rfl, ?_⟩) hHeld ?_ ?_
      rotate_left
      ·rintro w' ⟨s0, s1, s2, s3, s4, s5, s6, s7, s8, s9, s10, s11, s12, s13, s14, s15⟩
       go_simp
       with_reducible rfl
      rotate_left
      ·simp only [Act.put, List.setIfInBounds_toArray, List.set_cons_zero, List.set_cons_succ, i64_w, i32_w]
       rfl
      refine take_ (i := 10) (N := some 34) (v := ?_) (a' := ?_) #[true, true, true, true, true, true, true, true, false, true, true, false, false, false, false, false, false, false, false, false, false, false, false, false, false, false, false] rfl rfl (take_ofW HT_.out HW_.out (by kernel_rfl)) (fun _ _ _ h => h) (Or.inl ⟨by rfl, ?_⟩) hHeld ?_ ?_
      rotate_left
      ·rintro w' ⟨s0, s1, s2, s3, s4, s5, s6, s7, s8, s9, s10, s11, s12, s13, s14, s15⟩
       go_simp
       with_reducible rfl
      rotate_left
      ·simp only [Act.put, List.setIfInBounds_toArray, List.set_cons_zero, List.set_cons_succ, i64_w, i32_w]
       rfl
      refine one_ (i := 8) (N := some 32) #[true, true, true, true, true, true, true, true, true, true, true, false, false, false, false, false, false, false, false, false, false, false, false, false, false, false, false] rfl rfl (one_of HT_.out (by kernel_rfl)) (by decide) (fun K hK => ?_)
      refine goes_ Tryz.func18 (by kernel_rfl) rfl #[.agg #[.int .i64 t172, .int .i64 t173, .int .i64 t174, .slice Ao31 t175.length co31], .agg #[.int .i64 t178, .int .i64 t179, .int .i64 t180, .slice Ao36 t181.length co36]] (by rfl) rfl rfl (by (try simp only [List.map_toArray, List.map_cons, List.map_nil]); (rfl)) ?_
      with_reducible refine (rule_Same.calls k t172 t173 t174 _ _ t175 t178 t179 t180 _ _ t181 t186 _ ?side1 ?side2 ?side3 ?side4 A45.out).mono ?_
      (case side1 => repeat ((exact (Kd.R_reads' HO177.out).2.2)))
      (case side2 => exact (Kd.R_reads' HO177.out).2.1)
      (case side3 => repeat ((exact (Kd.R_reads' HO183.out).2.2)))
      (case side4 => exact (Kd.R_reads' HO183.out).2.1)
      rintro e w62 ⟨rfl, hb⟩
      refine ⟨_, rfl, ?_⟩
      have n0_ := Aside0.mk (Kd.R_below (by exact HO171.out) hb)
      have n1_ := Aside0.mk (Kd.R_below (by exact HO177.out) hb)
      have n2_ := Aside0.mk (Kd.R_below (by exact HO183.out) hb)
      have n3_ := Aside0.mk (blk_below (g := gb159) (o := .cells #[.int .i64 t165, .int .i64 t166, .int .i64 t167, .int .i64 t168, .slice Ao26 t169.length co26] 24 (0, 0)) (by exact BK159.out) hb)
      have n4_ := Aside0.mk (blk_below (g := gb160) (o := .cells #[.int .i64 t172, .int .i64 t173, .int .i64 t174, .slice Ao31 t175.length co31] 27 (0, 0)) (by exact BK160.out) hb)
      have n5_ := Aside0.mk (blk_below (g := gb161) (o := .cells #[.int .i64 t178, .int .i64 t179, .int .i64 t180, .slice Ao36 t181.length co36] 27 (0, 0)) (by exact BK161.out) hb)
      have n6_ := Aside0.mk (blk_below (g := gb162) (o := .cells #[.int .i64 a3_0, .int .i64 a3_1, .int .i64 a3_2] 29 (0, 0)) (by exact BK162.out) hb)
      have n7_ := Aside0.mk (blk_below (g := gb163) (o := .cells #[.int .i64 a4_0, .int .i64 a4_1, .int .i64 a4_2, .int .i64 a4_3] 31 (0, 0)) (by exact BK163.out) hb)
      have n8_ := Aside0.mk (below_step (by repeat ((with_reducible (exact HB.out)))) hb)
      clear HO171
      clear HO177
      clear HO183
      clear BK159
      clear BK160
      clear BK161
      clear BK162
      clear BK163
      clear HB
      have HO171 := n0_
      have HO177 := n1_
      have HO183 := n2_
      have BK159 := n3_
      have BK160 := n4_
      have BK161 := n5_
      have BK162 := n6_
      have BK163 := n7_
      have HB := n8_
      clear n0_ n1_ n2_ n3_ n4_ n5_ n6_ n7_ n8_
      (try clear hb)
      (try clear hb2)
      (try clear hk)
      (try clear hi)
      refine hK.out _ _ ⟨(blk_cell BK159.out 0).trans rfl, (blk_cell BK159.out 1).trans rfl, (blk_cell BK159.out 2).trans rfl, (blk_cell BK159.out 3).trans rfl, (blk_cell BK159.out 4).trans rfl, (blk_cell BK160.out 0).trans rfl, (blk_cell BK160.out 1).trans rfl, (blk_cell BK160.out 2).trans rfl, (blk_cell BK160.out 3).trans rfl, (blk_cell BK161.out 0).trans rfl, (blk_cell BK161.out 1).trans rfl, (blk_cell BK161.out 2).trans rfl, (blk_cell BK161.out 3).trans rfl, (blk_cell BK162.out 0).trans rfl, (blk_cell BK162.out 1).trans rfl, (blk_cell BK162.out 2).trans rfl⟩ (fun hHeld => ?_)
      clear hK K
      refine norm_ (a' := ?_) ?_ ?_
      rotate_left
      ·show Act.put _ (some 32) _ = _
       simp only [Act.put, List.setIfInBounds_toArray, List.set_cons_zero, List.set_cons_succ, i64_w, i32_w]
       rfl
      refine one_ (i := 11) (N := some 35) #[true, true, true, true, true, true, true, true, true, true, true, true, false, false, false, false, false, false, false, false, false, false, false, false, false, false, false] rfl rfl (one_of HT_.out (by kernel_rfl)) (by decide) (fun K hK => ?_)
      refine goes_ Tryz.func19 (by kernel_rfl) rfl #[.agg #[.int .i64 t172, .int .i64 t173, .int .i64 t174, .slice Ao31 t175.length co31], .agg #[.int .i64 t178, .int .i64 t179, .int .i64 t180, .slice Ao36 t181.length co36]] (by rfl) rfl rfl (by (try simp only [List.map_toArray, List.map_cons, List.map_nil]); (rfl)) ?_
      with_reducible refine (hortatorref7_Same.calls k t172 t173 t174 _ _ t175 t178 t179 t180 _ _ t181 t187 _ ?side1 ?side2 ?side3 ?side4 A46.out).mono ?_
      (case side1 => repeat ((exact (Kd.R_reads' HO177.out).2.2)))
      (case side2 => exact (Kd.R_reads' HO177.out).2.1)
      (case side3 => repeat ((exact (Kd.R_reads' HO183.out).2.2)))
      (case side4 => exact (Kd.R_reads' HO183.out).2.1)
      rintro e w63 ⟨rfl, hb⟩
      refine ⟨_, rfl, ?_⟩
      have n0_ := Aside0.mk (Kd.R_below (by exact HO171.out) hb)
      have n1_ := Aside0.mk (Kd.R_below (by exact HO177.out) hb)
      have n2_ := Aside0.mk (Kd.R_below (by exact HO183.out) hb)
      have n3_ := Aside0.mk (blk_below (g := gb159) (o := .cells #[.int .i64 t165, .int .i64 t166, .int .i64 t167, .int .i64 t168, .slice Ao26 t169.length co26] 24 (0, 0)) (by exact BK159.out) hb)
      have n4_ := Aside0.mk (blk_below (g := gb160) (o := .cells #[.int .i64 t172, .int .i64 t173, .int .i64 t174, .slice Ao31 t175.length co31] 27 (0, 0)) (by exact BK160.out) hb)
      have n5_ := Aside0.mk (blk_below (g := gb161) (o := .cells #[.int .i64 t178, .int .i64 t179, .int .i64 t180, .slice Ao36 t181.length co36] 27 (0, 0)) (by exact BK161.out) hb)
      have n6_ := Aside0.mk (blk_below (g := gb162) (o := .cells #[.int .i64 a3_0, .int .i64 a3_1, .int .i64 a3_2] 29 (0, 0)) (by exact BK162.out) hb)
      have n7_ := Aside0.mk (blk_below (g := gb163) (o := .cells #[.int .i64 a4_0, .int .i64 a4_1, .int .i64 a4_2, .int .i64 a4_3] 31 (0, 0)) (by exact BK163.out) hb)
      have n8_ := Aside0.mk (below_step (by repeat ((with_reducible (exact HB.out)))) hb)
      clear HO171
      clear HO177
      clear HO183
      clear BK159
      clear BK160
      clear BK161
      clear BK162
      clear BK163
      clear HB
      have HO171 := n0_
      have HO177 := n1_
      have HO183 := n2_
      have BK159 := n3_
      have BK160 := n4_
      have BK161 := n5_
      have BK162 := n6_
      have BK163 := n7_
      have HB := n8_
      clear n0_ n1_ n2_ n3_ n4_ n5_ n6_ n7_ n8_
      (try clear hb)
      (try clear hb2)
      (try clear hk)
      (try clear hi)
      refine hK.out _ _ ⟨(blk_cell BK159.out 0).trans rfl, (blk_cell BK159.out 1).trans rfl, (blk_cell BK159.out 2).trans rfl, (blk_cell BK159.out 3).trans rfl, (blk_cell BK159.out 4).trans rfl, (blk_cell BK160.out 0).trans rfl, (blk_cell BK160.out 1).trans rfl, (blk_cell BK160.out 2).trans rfl, (blk_cell BK160.out 3).trans rfl, (blk_cell BK161.out 0).trans rfl, (blk_cell BK161.out 1).trans rfl, (blk_cell BK161.out 2).trans rfl, (blk_cell BK161.out 3).trans rfl, (blk_cell BK162.out 0).trans rfl, (blk_cell BK162.out 1).trans rfl, (blk_cell BK162.out 2).trans rfl⟩ (fun hHeld => ?_)
      clear hK K
      refine norm_ (a' := ?_) ?_ ?_
      rotate_left
      ·show Act.put _ (some 35) _ = _
       simp only [Act.put, List.setIfInBounds_toArray, List.set_cons_zero, List.set_cons_succ, i64_w, i32_w]
       rfl
      refine pure_ (i := 12) (N := some 36) (v := ?_) (a' := ?_) #[true, true, true, true, true, true, true, true, true, true, true, true, true, false, false, false, false, false, false, false, false, false, false, false, false, false, false] rfl rfl (any_of HT_.out (by kernel_rfl)) (fun _ _ _ h => h) (Or.inl ⟨by rfl, ?_⟩) ?_ ?_
      rotate_left
      ·intro w'
       go_simp
       with_reducible rfl
      rotate_left
      ·simp only [Act.put, List.setIfInBounds_toArray, List.set_cons_zero, List.set_cons_succ, i64_w, i32_w]
       rfl
      refine pure_ (i := 13) (N := some 37) (v := ?_) (a' := ?_) #[true, true, true, true, true, true, true, true, true, true, true, true, true, true, false, false, false, false, false, false, false, false, false, false, false, false, false] rfl rfl (any_of HT_.out (by kernel_rfl)) (fun _ _ _ h => h) (Or.inl ⟨by rfl, ?_⟩) ?_ ?_
      rotate_left
      ·intro w'
       go_simp
       with_reducible rfl
      rotate_left
      ·simp only [Act.put, List.setIfInBounds_toArray, List.set_cons_zero, List.set_cons_succ, i64_w, i32_w]
       rfl
      refine pure_ (i := 14) (N := some 38) (v := ?_) (a' := ?_) #[true, true, true, true, true, true, true, true, true, true, true, true, true, true, true, false, false, false, false, false, false, false, false, false, false, false, false] rfl rfl (any_of HT_.out (by kernel_rfl)) (fun _ _ _ h => h) (Or.inl ⟨by rfl, ?_⟩) ?_ ?_
      rotate_left
      ·intro w'
       go_simp
       with_reducible rfl
      rotate_left
      ·simp only [Act.put, List.setIfInBounds_toArray, List.set_cons_zero, List.set_cons_succ, i64_w, i32_w]
       rfl
      refine take_ (i := 15) (N := some 39) (v := ?_) (a' := ?_) #[true, true, true, true, true, true, true, true, true, true, true, true, true, true, true, true, false, false, false, false, false, false, false, false, false, false, false] rfl rfl (take_ofW HT_.out HW_.out (by kernel_rfl)) (fun _ _ _ h => h) (Or.inl ⟨by rfl, ?_⟩) hHeld ?_ ?_
      rotate_left
      ·rintro w' ⟨s0, s1, s2, s3, s4, s5, s6, s7, s8, s9, s10, s11, s12, s13, s14, s15⟩
       go_simp
       with_reducible rfl
      rotate_left
      ·simp only [Act.put, List.setIfInBounds_toArray, List.set_cons_zero, List.set_cons_succ, i64_w, i32_w]
       rfl
      refine take_ (i := 16) (N := some 40) (v := ?_) (a' := ?_) #[true, true, true, true, true, true, true, true, true, true, true, true, true, true, true, true, true, false, false, false, false, false, false, false, false, false, false] rfl rfl (take_ofW HT_.out HW_.out (by kernel_rfl)) (fun _ _ _ h => h) (Or.inl ⟨by rfl, ?_⟩) hHeld ?_ ?_
      rotate_left
      ·rintro w' ⟨s0, s1, s2, s3, s4, s5, s6, s7, s8, s9, s10, s11, s12, s13, s14, s15⟩
       go_simp
       with_reducible rfl
      rotate_left
      ·simp only [Act.put, List.setIfInBounds_toArray, List.set_cons_zero, List.set_cons_succ, i64_w, i32_w]
       rfl
      refine one_ (i := 17) (N := some 41) #[true, true, true, true, true, true, true, true, true, true, true, true, true, true, true, true, true, true, false, false, false, false, false, false, false, false, false] rfl rfl (one_of HT_.out (by kernel_rfl)) (by decide) (fun K hK => ?_)
      refine goes_ Tryz.func18 (by kernel_rfl) rfl #[.agg #[.int .i64 t172, .int .i64 t173, .int .i64 t174, .slice Ao31 t175.length co31], .agg #[.int .i64 t172, .int .i64 t173, .int .i64 t174, .slice Ao31 t175.length co31]] (by rfl) rfl rfl (by (try simp only [List.map_toArray, List.map_cons, List.map_nil]); (rfl)) ?_
      with_reducible refine (rule_Same.calls k t172 t173 t174 _ _ t175 t172 t173 t174 _ _ t175 true _ ?side1 ?side2 ?side3 ?side4 A54.out).mono ?_
      (case side1 => repeat ((exact (Kd.R_reads' HO177.out).2.2)))
      (case side2 => exact (Kd.R_reads' HO177.out).2.1)
      (case side3 => repeat ((exact (Kd.R_reads' HO177.out).2.2)))
      (case side4 => exact (Kd.R_reads' HO177.out).2.1)
      rintro e w64 ⟨rfl, hb⟩
      refine ⟨_, rfl, ?_⟩
      have n0_ := Aside0.mk (Kd.R_below (by exact HO171.out) hb)
      have n1_ := Aside0.mk (Kd.R_below (by exact HO177.out) hb)
      have n2_ := Aside0.mk (Kd.R_below (by exact HO183.out) hb)
      have n3_ := Aside0.mk (blk_below (g := gb159) (o := .cells #[.int .i64 t165, .int .i64 t166, .int .i64 t167, .int .i64 t168, .slice Ao26 t169.length co26] 24 (0, 0)) (by exact BK159.out) hb)
      have n4_ := Aside0.mk (blk_below (g := gb160) (o := .cells #[.int .i64 t172, .int .i64 t173, .int .i64 t174, .slice Ao31 t175.length co31] 27 (0, 0)) (by exact BK160.out) hb)
      have n5_ := Aside0.mk (blk_below (g := gb161) (o := .cells #[.int .i64 t178, .int .i64 t179, .int .i64 t180, .slice Ao36 t181.length co36] 27 (0, 0)) (by exact BK161.out) hb)
      have n6_ := Aside0.mk (blk_below (g := gb162) (o := .cells #[.int .i64 a3_0, .int .i64 a3_1, .int .i64 a3_2] 29 (0, 0)) (by exact BK162.out) hb)
      have n7_ := Aside0.mk (blk_below (g := gb163) (o := .cells #[.int .i64 a4_0, .int .i64 a4_1, .int .i64 a4_2, .int .i64 a4_3] 31 (0, 0)) (by exact BK163.out) hb)
      have n8_ := Aside0.mk (below_step (by repeat ((with_reducible (exact HB.out)))) hb)
      clear HO171
      clear HO177
      clear HO183
      clear BK159
      clear BK160
      clear BK161
      clear BK162
      clear BK163
      clear HB
      have HO171 := n0_
      have HO177 := n1_
      have HO183 := n2_
      have BK159 := n3_
      have BK160 := n4_
      have BK161 := n5_
      have BK162 := n6_
      have BK163 := n7_
      have HB := n8_
      clear n0_ n1_ n2_ n3_ n4_ n5_ n6_ n7_ n8_
      (try clear hb)
      (try clear hb2)
      (try clear hk)
      (try clear hi)
      refine hK.out _ _ ⟨(blk_cell BK159.out 0).trans rfl, (blk_cell BK159.out 1).trans rfl, (blk_cell BK159.out 2).trans rfl, (blk_cell BK159.out 3).trans rfl, (blk_cell BK159.out 4).trans rfl, (blk_cell BK160.out 0).trans rfl, (blk_cell BK160.out 1).trans rfl, (blk_cell BK160.out 2).trans rfl, (blk_cell BK160.out 3).trans rfl, (blk_cell BK161.out 0).trans rfl, (blk_cell BK161.out 1).trans rfl, (blk_cell BK161.out 2).trans rfl, (blk_cell BK161.out 3).trans rfl, (blk_cell BK162.out 0).trans rfl, (blk_cell BK162.out 1).trans rfl, (blk_cell BK162.out 2).trans rfl⟩ (fun hHeld => ?_)
      clear hK K
      refine norm_ (a' := ?_) ?_ ?_
      rotate_left
      ·show Act.put _ (some 41) _ = _
       simp only [Act.put, List.setIfInBounds_toArray, List.set_cons_zero, List.set_cons_succ, i64_w, i32_w]
       rfl
      refine pure_ (i := 18) (N := some 42) (v := ?_) (a' := ?_) #[true, true, true, true, true, true, true, true, true, true, true, true, true, true, true, true, true, true, true, false, false, false, false, false, false, false, false] rfl rfl (any_of HT_.out (by kernel_rfl)) (fun _ _ _ h => h) (Or.inl ⟨by rfl, ?_⟩) ?_ ?_
      rotate_left
      ·intro w'
       go_simp
       with_reducible rfl
      rotate_left
      ·simp only [Act.put, List.setIfInBounds_toArray, List.set_cons_zero, List.set_cons_succ, i64_w, i32_w]
       rfl
      refine pure_ (i := 19) (N := some 43) (v := ?_) (a' := ?_) #[true, true, true, true, true, true, true, true, true, true, true, true, true, true, true, true, true, true, true, true, false, false, false, false, false, false, false] rfl rfl (any_of HT_.out (by kernel_rfl)) (fun _ _ _ h => h) (Or.inl ⟨by rfl, ?_⟩) ?_ ?_
      rotate_left
      ·intro w'
       go_simp
       with_reducible rfl
      rotate_left
      ·simp only [Act.put, List.setIfInBounds_toArray, List.set_cons_zero, List.set_cons_succ, i64_w, i32_w]
       rfl
      refine pure_ (i := 20) (N := some 44) (v := ?_) (a' := ?_) #[true, true, true, true, true, true, true, true, true, true, true, true, true, true, true, true, true, true, true, true, true, false, false, false, false, false, false] rfl rfl (any_of HT_.out (by kernel_rfl)) (fun _ _ _ h => h) (Or.inl ⟨by rfl, ?_⟩) ?_ ?_
      rotate_left
      ·intro w'
       go_simp
       with_reducible rfl
      rotate_left
      ·simp only [Act.put, List.setIfInBounds_toArray, List.set_cons_zero, List.set_cons_succ, i64_w, i32_w]
       rfl
      refine take_ (i := 21) (N := some 45) (v := ?_) (a' := ?_) #[true, true, true, true, true, true, true, true, true, true, true, true, true, true, true, true, true, true, true, true, true, true, false, false, false, false, false] rfl rfl (take_ofW HT_.out HW_.out (by kernel_rfl)) (fun _ _ _ h => h) (Or.inl ⟨by rfl, ?_⟩) hHeld ?_ ?_
      rotate_left
      ·rintro w' ⟨s0, s1, s2, s3, s4, s5, s6, s7, s8, s9, s10, s11, s12, s13, s14, s15⟩
       go_simp
       with_reducible rfl
      rotate_left
      ·simp only [Act.put, List.setIfInBounds_toArray, List.set_cons_zero, List.set_cons_succ, i64_w, i32_w]
       rfl
      refine take_ (i := 23) (N := some 47) (v := ?_) (a' := ?_) #[true, true, true, true, true, true, true, true, true, true, true, true, true, true, true, true, true, true, true, true, true, true, false, true, false, false, false] rfl rfl (take_ofW HT_.out HW_.out (by kernel_rfl)) (fun _ _ _ h => h) (Or.inl ⟨by rfl, ?_⟩) hHeld ?_ ?_
      rotate_left
      ·rintro w' ⟨s0, s1, s2, s3, s4, s5, s6, s7, s8, s9, s10, s11, s12, s13, s14, s15⟩
       go_simp
       with_reducible rfl
      rotate_left
      ·simp only [Act.put, List.setIfInBounds_toArray, List.set_cons_zero, List.set_cons_succ, i64_w, i32_w]
       rfl
      refine one_ (i := 22) (N := some 46) #[true, true, true, true, true, true, true, true, true, true, true, true, true, true, true, true, true, true, true, true, true, true, true, true, false, false, false] rfl rfl (one_of HT_.out (by kernel_rfl)) (by decide) (fun K hK => ?_)
      refine goes_ Tryz.func20 (by kernel_rfl) rfl #[.agg #[.int .i64 a3_0, .int .i64 a3_1, .int .i64 a3_2]] (by rfl) rfl rfl (by (try simp only [List.map_toArray, List.map_cons, List.map_nil]); (rfl)) ?_
      with_reducible refine (rule_Load.calls a3_0 a3_1 a3_2 t189 _ A56.out).mono ?_
      rintro e w65 ⟨rfl, hb⟩
      refine ⟨_, rfl, ?_⟩
      have n0_ := Aside0.mk (Kd.R_below (by exact HO171.out) hb)
      have n1_ := Aside0.mk (Kd.R_below (by exact HO177.out) hb)
      have n2_ := Aside0.mk (Kd.R_below (by exact HO183.out) hb)
      have n3_ := Aside0.mk (blk_below (g := gb159) (o := .cells #[.int .i64 t165, .int .i64 t166, .int .i64 t167, .int .i64 t168, .slice Ao26 t169.length co26] 24 (0, 0)) (by exact BK159.out) hb)
      have n4_ := Aside0.mk (blk_below (g := gb160) (o := .cells #[.int .i64 t172, .int .i64 t173, .int .i64 t174, .slice Ao31 t175.length co31] 27 (0, 0)) (by exact BK160.out) hb)
      have n5_ := Aside0.mk (blk_below (g := gb161) (o := .cells #[.int .i64 t178, .int .i64 t179, .int .i64 t180, .slice Ao36 t181.length co36] 27 (0, 0)) (by exact BK161.out) hb)
      have n6_ := Aside0.mk (blk_below (g := gb162) (o := .cells #[.int .i64 a3_0, .int .i64 a3_1, .int .i64 a3_2] 29 (0, 0)) (by exact BK162.out) hb)
      have n7_ := Aside0.mk (blk_below (g := gb163) (o := .cells #[.int .i64 a4_0, .int .i64 a4_1, .int .i64 a4_2, .int .i64 a4_3] 31 (0, 0)) (by exact BK163.out) hb)
      have n8_ := Aside0.mk (below_step (by repeat ((with_reducible (exact HB.out)))) hb)
      clear HO171
      clear HO177
      clear HO183
      clear BK159
      clear BK160
      clear BK161
      clear BK162
      clear BK163
      clear HB
      have HO171 := n0_
      have HO177 := n1_
      have HO183 := n2_
      have BK159 := n3_
      have BK160 := n4_
      have BK161 := n5_
      have BK162 := n6_
      have BK163 := n7_
      have HB := n8_
      clear n0_ n1_ n2_ n3_ n4_ n5_ n6_ n7_ n8_
      (try clear hb)
      (try clear hb2)
      (try clear hk)
      (try clear hi)
      refine hK.out _ _ ⟨(blk_cell BK159.out 0).trans rfl, (blk_cell BK159.out 1).trans rfl, (blk_cell BK159.out 2).trans rfl, (blk_cell BK159.out 3).trans rfl, (blk_cell BK159.out 4).trans rfl, (blk_cell BK160.out 0).trans rfl, (blk_cell BK160.out 1).trans rfl, (blk_cell BK160.out 2).trans rfl, (blk_cell BK160.out 3).trans rfl, (blk_cell BK161.out 0).trans rfl, (blk_cell BK161.out 1).trans rfl, (blk_cell BK161.out 2).trans rfl, (blk_cell BK161.out 3).trans rfl, (blk_cell BK162.out 0).trans rfl, (blk_cell BK162.out 1).trans rfl, (blk_cell BK162.out 2).trans rfl⟩ (fun hHeld => ?_)
      clear hK K
      refine norm_ (a' := ?_) ?_ ?_
      rotate_left
      ·show Act.put _ (some 46) _ = _
       simp only [Act.put, List.setIfInBounds_toArray, List.set_cons_zero, List.set_cons_succ, i64_w, i32_w]
       rfl
      refine one_ (i := 24) (N := some 48) #[true, true, true, true, true, true, true, true, true, true, true, true, true, true, true, true, true, true, true, true, true, true, true, true, true, false, false] rfl rfl (one_of HT_.out (by kernel_rfl)) (by decide) (fun K hK => ?_)
      refine goes_ Tryz.func21 (by kernel_rfl) rfl #[.agg #[.int .i64 a3_0, .int .i64 a3_1, .int .i64 a3_2]] (by rfl) rfl rfl (by (try simp only [List.map_toArray, List.map_cons, List.map_nil]); (rfl)) ?_
      with_reducible refine (hortatorref7_Load.calls a3_0 a3_1 a3_2 t190 _ A57.out).mono ?_
      rintro e w66 ⟨rfl, hb⟩
      refine ⟨_, rfl, ?_⟩
      have n0_ := Aside0.mk (Kd.R_below (by exact HO171.out) hb)
      have n1_ := Aside0.mk (Kd.R_below (by exact HO177.out) hb)
      have n2_ := Aside0.mk (Kd.R_below (by exact HO183.out) hb)
      have n3_ := Aside0.mk (blk_below (g := gb159) (o := .cells #[.int .i64 t165, .int .i64 t166, .int .i64 t167, .int .i64 t168, .slice Ao26 t169.length co26] 24 (0, 0)) (by exact BK159.out) hb)
      have n4_ := Aside0.mk (blk_below (g := gb160) (o := .cells #[.int .i64 t172, .int .i64 t173, .int .i64 t174, .slice Ao31 t175.length co31] 27 (0, 0)) (by exact BK160.out) hb)
      have n5_ := Aside0.mk (blk_below (g := gb161) (o := .cells #[.int .i64 t178, .int .i64 t179, .int .i64 t180, .slice Ao36 t181.length co36] 27 (0, 0)) (by exact BK161.out) hb)
      have n6_ := Aside0.mk (blk_below (g := gb162) (o := .cells #[.int .i64 a3_0, .int .i64 a3_1, .int .i64 a3_2] 29 (0, 0)) (by exact BK162.out) hb)
      have n7_ := Aside0.mk (blk_below (g := gb163) (o := .cells #[.int .i64 a4_0, .int .i64 a4_1, .int .i64 a4_2, .int .i64 a4_3] 31 (0, 0)) (by exact BK163.out) hb)
      have n8_ := Aside0.mk (below_step (by repeat ((with_reducible (exact HB.out)))) hb)
      clear HO171
      clear HO177
      clear HO183
      clear BK159
      clear BK160
      clear BK161
      clear BK162
      clear BK163
      clear HB
      have HO171 := n0_
      have HO177 := n1_
      have HO183 := n2_
      have BK159 := n3_
      have BK160 := n4_
      have BK161 := n5_
      have BK162 := n6_
      have BK163 := n7_
      have HB := n8_
      clear n0_ n1_ n2_ n3_ n4_ n5_ n6_ n7_ n8_
      (try clear hb)
      (try clear hb2)
      (try clear hk)
      (try clear hi)
      refine hK.out _ _ ⟨(blk_cell BK159.out 0).trans rfl, (blk_cell BK159.out 1).trans rfl, (blk_cell BK159.out 2).trans rfl, (blk_cell BK159.out 3).trans rfl, (blk_cell BK159.out 4).trans rfl, (blk_cell BK160.out 0).trans rfl, (blk_cell BK160.out 1).trans rfl, (blk_cell BK160.out 2).trans rfl, (blk_cell BK160.out 3).trans rfl, (blk_cell BK161.out 0).trans rfl, (blk_cell BK161.out 1).trans rfl, (blk_cell BK161.out 2).trans rfl, (blk_cell BK161.out 3).trans rfl, (blk_cell BK162.out 0).trans rfl, (blk_cell BK162.out 1).trans rfl, (blk_cell BK162.out 2).trans rfl⟩ (fun hHeld => ?_)
      clear hK K
      refine norm_ (a' := ?_) ?_ ?_
      rotate_left
      ·show Act.put _ (some 48) _ = _
       simp only [Act.put, List.setIfInBounds_toArray, List.set_cons_zero, List.set_cons_succ, i64_w, i32_w]
       rfl
      refine pure_ (i := 25) (N := some 49) (v := ?_) (a' := ?_) #[true, true, true, true, true, true, true, true, true, true, true, true, true, true, true, true, true, true, true, true, true, true, true, true, true, true, false] rfl rfl (any_of HT_.out (by kernel_rfl)) (fun _ _ _ h => h) (Or.inl ⟨by rfl, ?_⟩) ?_ ?_
      rotate_left
      ·intro w'
       go_simp
       with_reducible rfl
      rotate_left
      ·simp only [Act.put, List.setIfInBounds_toArray, List.set_cons_zero, List.set_cons_succ, i64_w, i32_w]
       rfl
      refine pure_ (i := 26) (N := some 50) (v := ?_) (a' := ?_) #[true, true, true, true, true, true, true, true, true, true, true, true, true, true, true, true, true, true, true, true, true, true, true, true, true, true, true] rfl rfl (any_of HT_.out (by kernel_rfl)) (fun _ _ _ h => h) (Or.inl ⟨by rfl, ?_⟩) ?_ ?_
      rotate_left
      ·intro w'
       go_simp
       with_reducible rfl
      rotate_left
      ·simp only [Act.put, List.setIfInBounds_toArray, List.set_cons_zero, List.set_cons_succ, i64_w, i32_w]
       rfl
      refine done_ (done_of HT_.out (by kernel_rfl)) ?_
      try go_wp2
      go_meet
      case rel => exact ⟨_, ((t189 != t190)), (by (rfl)), H', ⟨by (omega)⟩, ⟨by exact HO171.out⟩, ⟨by exact HO177.out⟩, ⟨by exact HO183.out⟩, ⟨by exact BK159.out⟩, ⟨by exact BK160.out⟩, ⟨by exact BK161.out⟩, ⟨by exact BK162.out⟩, ⟨by exact BK163.out⟩, ⟨by repeat ((with_reducible (exact HB.out)))⟩⟩
     ·replace c55 := Bool.eq_false_iff.mpr c55
      subst c55
      have H1 : (hortatorlaw7_RuleAll.j0 k true t165 t166 t167 t168 t169 t172 t173 t174 t175 a4_0 a4_1 a4_2 a4_3) = some r := by rw [if_neg (show ¬ (false = true) by decide)] at H; exact H
      clear H
      have H := H1
      clear H1
      have H' := Aside0.mk H
      clear H
      try go_wp2
      generalize w24 = w67 at HO171 HO177 HO183 BK159 BK160 BK161 BK162 BK163 HB ⊢
      have n0_ := Aside0.mk (Kd.R_drew HO171.out)
      have n1_ := Aside0.mk (Kd.R_drew HO177.out)
      have n2_ := Aside0.mk (Kd.R_drew HO183.out)
      have n3_ := Aside0.mk (blk_drew BK159.out)
      have n4_ := Aside0.mk (blk_drew BK160.out)
      have n5_ := Aside0.mk (blk_drew BK161.out)
      have n6_ := Aside0.mk (blk_drew BK162.out)
      have n7_ := Aside0.mk (blk_drew BK163.out)
      have n8_ := Aside0.mk (below_drew1 HB.out)
      clear HO171
      clear HO177
      clear HO183
      clear BK159
      clear BK160
      clear BK161
      clear BK162
      clear BK163
      clear HB
      have HO171 := n0_
      have HO177 := n1_
      have HO183 := n2_
      have BK159 := n3_
      have BK160 := n4_
      have BK161 := n5_
      have BK162 := n6_
      have BK163 := n7_
      have HB := n8_
      clear n0_ n1_ n2_ n3_ n4_ n5_ n6_ n7_ n8_
      refine start_ (n := 27) (S := fun w' => w'.cell? ⟨gb159, 0, none⟩ = some (.int .i64 t165) ∧ w'.cell? ⟨gb159, 1, none⟩ = some (.int .i64 t166) ∧ w'.cell? ⟨gb159, 2, none⟩ = some (.int .i64 t167) ∧ w'.cell? ⟨gb159, 3, none⟩ = some (.int .i64 t168) ∧ w'.cell? ⟨gb159, 4, none⟩ = some (.slice Ao26 t169.length co26) ∧ w'.cell? ⟨gb160, 0, none⟩ = some (.int .i64 t172) ∧ w'.cell? ⟨gb160, 1, none⟩ = some (.int .i64 t173) ∧ w'.cell? ⟨gb160, 2, none⟩ = some (.int .i64 t174) ∧ w'.cell? ⟨gb160, 3, none⟩ = some (.slice Ao31 t175.length co31) ∧ w'.cell? ⟨gb161, 0, none⟩ = some (.int .i64 t178) ∧ w'.cell? ⟨gb161, 1, none⟩ = some (.int .i64 t179) ∧ w'.cell? ⟨gb161, 2, none⟩ = some (.int .i64 t180) ∧ w'.cell? ⟨gb161, 3, none⟩ = some (.slice Ao36 t181.length co36)) (ds := []) #[false, false, false, false, false, false, false, false, false, false, false, false, false, false, false, false, false, false, false, false, false, false, false, false, false, false, false] (by kernel_rfl) rfl rfl ⟨(blk_cell BK159.out 0).trans rfl, (blk_cell BK159.out 1).trans rfl, (blk_cell BK159.out 2).trans rfl, (blk_cell BK159.out 3).trans rfl, (blk_cell BK159.out 4).trans rfl, (blk_cell BK160.out 0).trans rfl, (blk_cell BK160.out 1).trans rfl, (blk_cell BK160.out 2).trans rfl, (blk_cell BK160.out 3).trans rfl, (blk_cell BK161.out 0).trans rfl, (blk_cell BK161.out 1).trans rfl, (blk_cell BK161.out 2).trans rfl, (blk_cell BK161.out 3).trans rfl⟩ (fun hHeld => ?_); refine with_tabW hortatorlaw7_RuleAll.tab5 hortatorlaw7_RuleAll.bits5 (fun HT_ HW_ => ?_)
      generalize w67.drew = w68 at HO171 HO177 HO183 BK159 BK160 BK161 BK162 BK163 HB hHeld ⊢
      refine take_ (i := 0) (N := some 24) (v := ?_) (a' := ?_) #[true, false, false, false, false, false, false, false, false, false, false, false, false, false, false, false, false, false, false, false, false, false, false, false, false, false, false] rfl rfl (take_ofW HT_.out HW_.out (by kernel_rfl)) (fun _ _ _ h => h) (Or.inl ⟨by rfl, ?_⟩) hHeld ?_ ?_
      rotate_left
      ·rintro w' ⟨s0, s1, s2, s3, s4, s5, s6, s7, s8, s9, s10, s11, s12⟩
       go_simp
       with_reducible rfl
      rotate_left
      ·simp only [Act.put, List.setIfInBounds_toArray, List.set_cons_zero, List.set_cons_succ, i64_w, i32_w]
       rfl
      refine take_ (i := 2) (N := some 26) (v := ?_) (a' := ?_) #[true, false, true, false, false, false, false, false, false, false, false, false, false, false, false, false, false, false, false, false, false, false, false, false, false, false, false] rfl rfl (take_ofW HT_.out HW_.out (by kernel_rfl)) (fun _ _ _ h => h) (Or.inl ⟨by rfl, ?_⟩) hHeld ?_ ?_
      rotate_left
      ·rintro w' ⟨s0, s1, s2, s3, s4, s5, s6, s7, s8, s9, s10, s11, s12⟩
       go_simp
       with_reducible rfl
      rotate_left
      ·simp only [Act.put, List.setIfInBounds_toArray, List.set_cons_zero, List.set_cons_succ, i64_w, i32_w]
       rfl
      refine one_ (i := 1) (N := some 25) #[true, true, true, false, false, false, false, false, false, false, false, false, false, false, false, false, false, false, false, false, false, false, false, false, false, false, false] rfl rfl (one_of HT_.out (by kernel_rfl)) (by decide) (fun K hK => ?_)
      refine goes_ Tryz.func16 (by kernel_rfl) rfl #[.agg #[.int .i64 t165, .int .i64 t166, .int .i64 t167, .int .i64 t168, .slice Ao26 t169.length co26]] (by rfl) rfl rfl (by (try simp only [List.map_toArray, List.map_cons, List.map_nil]); (rfl)) ?_
      with_reducible refine (rule_Config.calls t165 t166 t167 t168 _ _ t169 t184 _ ?side1 ?side2 A38.out).mono ?_
      (case side1 => repeat ((exact (Kd.R_reads' HO171.out).2.2)))
      (case side2 => exact (Kd.R_reads' HO171.out).2.1)
      rintro e w69 ⟨rfl, hb⟩
      refine ⟨_, rfl, ?_⟩
      have n0_ := Aside0.mk (Kd.R_below (by exact HO171.out) hb)
      have n1_ := Aside0.mk (Kd.R_below (by exact HO177.out) hb)
      have n2_ := Aside0.mk (Kd.R_below (by exact HO183.out) hb)
      have n3_ := Aside0.mk (blk_below (g := gb159) (o := .cells #[.int .i64 t165, .int .i64 t166, .int .i64 t167, .int .i64 t168, .slice Ao26 t169.length co26] 24 (0, 0)) (by exact BK159.out) hb)
      have n4_ := Aside0.mk (blk_below (g := gb160) (o := .cells #[.int .i64 t172, .int .i64 t173, .int .i64 t174, .slice Ao31 t175.length co31] 27 (0, 0)) (by exact BK160.out) hb)
      have n5_ := Aside0.mk (blk_below (g := gb161) (o := .cells #[.int .i64 t178, .int .i64 t179, .int .i64 t180, .slice Ao36 t181.length co36] 27 (0, 0)) (by exact BK161.out) hb)
      have n6_ := Aside0.mk (blk_below (g := gb162) (o := .cells #[.int .i64 a3_0, .int .i64 a3_1, .int .i64 a3_2] 29 (0, 0)) (by exact BK162.out) hb)
      have n7_ := Aside0.mk (blk_below (g := gb163) (o := .cells #[.int .i64 a4_0, .int .i64 a4_1, .int .i64 a4_2, .int .i64 a4_3] 31 (0, 0)) (by exact BK163.out) hb)
      have n8_ := Aside0.mk (below_step (by repeat ((with_reducible (exact HB.out)))) hb)
      clear HO171
      clear HO177
      clear HO183
      clear BK159
      clear BK160
      clear BK161
      clear BK162
      clear BK163
      clear HB
      have HO171 := n0_
      have HO177 := n1_
      have HO183 := n2_
      have BK159 := n3_
      have BK160 := n4_
      have BK161 := n5_
      have BK162 := n6_
      have BK163 := n7_
      have HB := n8_
      clear n0_ n1_ n2_ n3_ n4_ n5_ n6_ n7_ n8_
      (try clear hb)
      (try clear hb2)
      (try clear hk)
      (try clear hi)
      refine hK.out _ _ ⟨(blk_cell BK159.out 0).trans rfl, (blk_cell BK159.out 1).trans rfl, (blk_cell BK159.out 2).trans rfl, (blk_cell BK159.out 3).trans rfl, (blk_cell BK159.out 4).trans rfl, (blk_cell BK160.out 0).trans rfl, (blk_cell BK160.out 1).trans rfl, (blk_cell BK160.out 2).trans rfl, (blk_cell BK160.out 3).trans rfl, (blk_cell BK161.out 0).trans rfl, (blk_cell BK161.out 1).trans rfl, (blk_cell BK161.out 2).trans rfl, (blk_cell BK161.out 3).trans rfl⟩ (fun hHeld => ?_)
      clear hK K
      refine norm_ (a' := ?_) ?_ ?_
      rotate_left
      ·show Act.put _ (some 25) _ = _
       simp only [Act.put, List.setIfInBounds_toArray, List.set_cons_zero, List.set_cons_succ, i64_w, i32_w]
       rfl
      refine one_ (i := 3) (N := some 27) #[true, true, true, true, false, false, false, false, false, false, false, false, false, false, false, false, false, false, false, false, false, false, false, false, false, false, false] rfl rfl (one_of HT_.out (by kernel_rfl)) (by decide) (fun K hK => ?_)
      refine goes_ Tryz.func17 (by kernel_rfl) rfl #[.agg #[.int .i64 t165, .int .i64 t166, .int .i64 t167, .int .i64 t168, .slice Ao26 t169.length co26]] (by rfl) rfl rfl (by (try simp only [List.map_toArray, List.map_cons, List.map_nil]); (rfl)) ?_
      with_reducible refine (hortatorref7_Config.calls k t165 t166 t167 t168 _ _ t169 t185 _ ?side1 ?side2 A39.out).mono ?_
      (case side1 => repeat ((exact (Kd.R_reads' HO171.out).2.2)))
      (case side2 => exact (Kd.R_reads' HO171.out).2.1)
      rintro e w70 ⟨rfl, hb⟩
      refine ⟨_, rfl, ?_⟩
      have n0_ := Aside0.mk (Kd.R_below (by exact HO171.out) hb)
      have n1_ := Aside0.mk (Kd.R_below (by exact HO177.out) hb)
      have n2_ := Aside0.mk (Kd.R_below (by exact HO183.out) hb)
      have n3_ := Aside0.mk (blk_below (g := gb159) (o := .cells #[.int .i64 t165, .int .i64 t166, .int .i64 t167, .int .i64 t168, .slice Ao26 t169.length co26] 24 (0, 0)) (by exact BK159.out) hb)
      have n4_ := Aside0.mk (blk_below (g := gb160) (o := .cells #[.int .i64 t172, .int .i64 t173, .int .i64 t174, .slice Ao31 t175.length co31] 27 (0, 0)) (by exact BK160.out) hb)
      have n5_ := Aside0.mk (blk_below (g := gb161) (o := .cells #[.int .i64 t178, .int .i64 t179, .int .i64 t180, .slice Ao36 t181.length co36] 27 (0, 0)) (by exact BK161.out) hb)
      have n6_ := Aside0.mk (blk_below (g := gb162) (o := .cells #[.int .i64 a3_0, .int .i64 a3_1, .int .i64 a3_2] 29 (0, 0)) (by exact BK162.out) hb)
      have n7_ := Aside0.mk (blk_below (g := gb163) (o := .cells #[.int .i64 a4_0, .int .i64 a4_1, .int .i64 a4_2, .int .i64 a4_3] 31 (0, 0)) (by exact BK163.out) hb)
      have n8_ := Aside0.mk (below_step (by repeat ((with_reducible (exact HB.out)))) hb)
      clear HO171
      clear HO177
      clear HO183
      clear BK159
      clear BK160
      clear BK161
      clear BK162
      clear BK163
      clear HB
      have HO171 := n0_
      have HO177 := n1_
      have HO183 := n2_
      have BK159 := n3_
      have BK160 := n4_
      have BK161 := n5_
      have BK162 := n6_
      have BK163 := n7_
      have HB := n8_
      clear n0_ n1_ n2_ n3_ n4_ n5_ n6_ n7_ n8_
      (try clear hb)
      (try clear hb2)
      (try clear hk)
      (try clear hi)
      refine hK.out _ _ ⟨(blk_cell BK159.out 0).trans rfl, (blk_cell BK159.out 1).trans rfl, (blk_cell BK159.out 2).trans rfl, (blk_cell BK159.out 3).trans rfl, (blk_cell BK159.out 4).trans rfl, (blk_cell BK160.out 0).trans rfl, (blk_cell BK160.out 1).trans rfl, (blk_cell BK160.out 2).trans rfl, (blk_cell BK160.out 3).trans rfl, (blk_cell BK161.out 0).trans rfl, (blk_cell BK161.out 1).trans rfl, (blk_cell BK161.out 2).trans rfl, (blk_cell BK161.out 3).trans rfl⟩ (fun hHeld => ?_)
      clear hK K
      refine norm_ (a' := ?_) ?_ ?_
      rotate_left
      ·show Act.put _ (some 27) _ = _
       simp only [Act.put, List.setIfInBounds_toArray, List.set_cons_zero, List.set_cons_succ, i64_w, i32_w]
       rfl
      refine pure_ (i := 4) (N := some 28) (v := ?_) (a' := ?_) #[true, true, true, true, true, false, false, false, false, false, false, false, false, false, false, false, false, false, false, false, false, false, false, false, false, false, false] rfl rfl (any_of HT_.out (by kernel_rfl)) (fun _ _ _ h => h) (Or.inl ⟨by rfl, ?_⟩) ?_ ?_
      rotate_left
      ·intro w'
       go_simp
       with_reducible rfl
      rotate_left
      ·simp only [Act.put, List.setIfInBounds_toArray, List.set_cons_zero, List.set_cons_succ, i64_w, i32_w]
       rfl
      refine pure_ (i := 5) (N := some 29) (v := ?_) (a' := ?_) #[true, true, true, true, true, true, false, false, false, false, false, false, false, false, false, false, false, false, false, false, false, false, false, false, false, false, false] rfl rfl (any_of HT_.out (by kernel_rfl)) (fun _ _ _ h => h) (Or.inl ⟨by rfl, ?_⟩) ?_ ?_
      rotate_left
      ·intro w'
       go_simp
       with_reducible rfl
      rotate_left
      ·simp only [Act.put, List.setIfInBounds_toArray, List.set_cons_zero, List.set_cons_succ, i64_w, i32_w]
       rfl
      refine take_ (i := 6) (N := some 30) (v := ?_) (a' := ?_) #[true, true, true, true, true, true, true, false, false, false, false, false, false, false, false, false, false, false, false, false, false, false, false, false, false, false, false] rfl rfl (take_ofW HT_.out HW_.out (by kernel_rfl)) (fun _ _ _ h => h) (Or.inl ⟨by rfl, ?_⟩) hHeld ?_ ?_
      rotate_left
      ·rintro w' ⟨s0, s1, s2, s3, s4, s5, s6, s7, s8, s9, s10, s11, s12⟩
       go_simp
       with_reducible rfl
      rotate_left
      ·simp only [Act.put, List.setIfInBounds_toArray, List.set_cons_zero, List.set_cons_succ, i64_w, i32_w]
       rfl
      refine take_ (i := 7) (N := some 31) (v := ?_) (a' := ?_) #[true, true, true, true, true, true, true, true, false, false, false, false, false, false, false, false, false, false, false, false, false, false, false, false, false, false, false] rfl rfl (take_ofW HT_.out HW_.out (by kernel_rfl)) (fun _ _ _ h => h) (Or.inl ⟨by rfl, ?_⟩) hHeld ?_ ?_
      rotate_left
      ·rintro w' ⟨s0, s1, s2, s3, s4, s5, s6, s7, s8, s9, s10, s11, s12⟩
       go_simp
       with_reducible rfl
      rotate_left
      ·simp only [Act.put, List.setIfInBounds_toArray, List.set_cons_zero, List.set_cons_succ, i64_w, i32_w]
       rfl
      refine take_ (i := 9) (N := some 33) (v := ?_) (a' := ?_) #[true, true, true, true, true, true, true, true, false, true, false, false, false, false, false, false, false, false, false, false, false, false, false, false, false, false, false] rfl rfl (take_ofW HT_.out HW_.out (by kernel_rfl)) (fun _ _ _ h => h) (Or.inl ⟨by rfl, ?_⟩) hHeld ?_ ?_
      rotate_left
      ·rintro w' ⟨s0, s1, s2, s3, s4, s5, s6, s7, s8, s9, s10, s11, s12⟩
       go_simp
       with_reducible rfl
      rotate_left
      ·simp only [Act.put, List.setIfInBounds_toArray, List.set_cons_zero, List.set_cons_succ, i64_w, i32_w]
       rfl
      refine take_ (i := 10) (N := some 34) (v := ?_) (a' := ?_) #[true, true, true, true, true, true, true, true, false, true, true, false, false, false, false, false, false, false, false, false, false, false, false, false, false, false, false] rfl rfl (take_ofW HT_.out HW_.out (by kernel_rfl)) (fun _ _ _ h => h) (Or.inl ⟨by rfl, ?_⟩) hHeld ?_ ?_
      rotate_left
      ·rintro w' ⟨s0, s1, s2, s3, s4, s5, s6, s7, s8, s9, s10, s11, s12⟩
       go_simp
       with_reducible rfl
      rotate_left
      ·simp only [Act.put, List.setIfInBounds_toArray, List.set_cons_zero, List.set_cons_succ, i64_w, i32_w]
       rfl
      refine one_ (i := 8) (N := some 32) #[true, true, true, true, true, true, true, true, true, true, true, false, false, false, false, false, false, false, false, false, false, false, false, false, false, false, false] rfl rfl (one_of HT_.out (by kernel_rfl)) (by decide) (fun K hK => ?_)
      refine goes_ Tryz.func18 (by kernel_rfl) rfl #[.agg #[.int .i64 t172, .int .i64 t173, .int .i64 t174, .slice Ao31 t175.length co31], .agg #[.int .i64 t178, .int .i64 t179, .int .i64 t180, .slice Ao36 t181.length co36]] (by rfl) rfl rfl (by (try simp only [List.map_toArray, List.map_cons, List.map_nil]); (rfl)) ?_
      with_reducible refine (rule_Same.calls k t172 t173 t174 _ _ t175 t178 t179 t180 _ _ t181 t186 _ ?side1 ?side2 ?side3 ?side4 A45.out).mono ?_
      (case side1 => repeat ((exact (Kd.R_reads' HO177.out).2.2)))
      (case side2 => exact (Kd.R_reads' HO177.out).2.1)
      (case side3 => repeat ((exact (Kd.R_reads' HO183.out).2.2)))
      (case side4 => exact (Kd.R_reads' HO183.out).2.1)
      rintro e w71 ⟨rfl, hb⟩
      refine ⟨_, rfl, ?_⟩
      have n0_ := Aside0.mk (Kd.R_below (by exact HO171.out) hb)
      have n1_ := Aside0.mk (Kd.R_below (by exact HO177.out) hb)
      have n2_ := Aside0.mk (Kd.R_below (by exact HO183.out) hb)
      have n3_ := Aside0.mk (blk_below (g := gb159) (o := .cells #[.int .i64 t165, .int .i64 t166, .int .i64 t167, .int .i64 t168, .slice Ao26 t169.length co26] 24 (0, 0)) (by exact BK159.out) hb)
      have n4_ := Aside0.mk (blk_below (g := gb160) (o := .cells #[.int .i64 t172, .int .i64 t173, .int .i64 t174, .slice Ao31 t175.length co31] 27 (0, 0)) (by exact BK160.out) hb)
      have n5_ := Aside0.mk (blk_below (g := gb161) (o := .cells #[.int .i64 t178, .int .i64 t179, .int .i64 t180, .slice Ao36 t181.length co36] 27 (0, 0)) (by exact BK161.out) hb)
      have n6_ := Aside0.mk (blk_below (g := gb162) (o := .cells #[.int .i64 a3_0, .int .i64 a3_1, .int .i64 a3_2] 29 (0, 0)) (by exact BK162.out) hb)
      have n7_ := Aside0.mk (blk_below (g := gb163) (o := .cells #[.int .i64 a4_0, .int .i64 a4_1, .int .i64 a4_2, .int .i64 a4_3] 31 (0, 0)) (by exact BK163.out) hb)
      have n8_ := Aside0.mk (below_step (by repeat ((with_reducible (exact HB.out)))) hb)
      clear HO171
      clear HO177
      clear HO183
      clear BK159
      clear BK160
      clear BK161
      clear BK162
      clear BK163
      clear HB
      have HO171 := n0_
      have HO177 := n1_
      have HO183 := n2_
      have BK159 := n3_
      have BK160 := n4_
      have BK161 := n5_
      have BK162 := n6_
      have BK163 := n7_
      have HB := n8_
      clear n0_ n1_ n2_ n3_ n4_ n5_ n6_ n7_ n8_
      (try clear hb)
      (try clear hb2)
      (try clear hk)
      (try clear hi)
      refine hK.out _ _ ⟨(blk_cell BK159.out 0).trans rfl, (blk_cell BK159.out 1).trans rfl, (blk_cell BK159.out 2).trans rfl, (blk_cell BK159.out 3).trans rfl, (blk_cell BK159.out 4).trans rfl, (blk_cell BK160.out 0).trans rfl, (blk_cell BK160.out 1).trans rfl, (blk_cell BK160.out 2).trans rfl, (blk_cell BK160.out 3).trans rfl, (blk_cell BK161.out 0).trans rfl, (blk_cell BK161.out 1).trans rfl, (blk_cell BK161.out 2).trans rfl, (blk_cell BK161.out 3).trans rfl⟩ (fun hHeld => ?_)
      clear hK K
      refine norm_ (a' := ?_) ?_ ?_
      rotate_left
      ·show Act.put _ (some 32) _ = _
       simp only [Act.put, List.setIfInBounds_toArray, List.set_cons_zero, List.set_cons_succ, i64_w, i32_w]
       rfl
      refine one_ (i := 11) (N := some 35) #[true, true, true, true, true, true, true, true, true, true, true, true, false, false, false, false, false, false, false, false, false, false, false, false, false, false, false] rfl rfl (one_of HT_.out (by kernel_rfl)) (by decide) (fun K hK => ?_)
      refine goes_ Tryz.func19 (by kernel_rfl) rfl #[.agg #[.int .i64 t172, .int .i64 t173, .int .i64 t174, .slice Ao31 t175.length co31], .agg #[.int .i64 t178, .int .i64 t179, .int .i64 t180, .slice Ao36 t181.length co36]] (by rfl) rfl rfl (by (try simp only [List.map_toArray, List.map_cons, List.map_nil]); (rfl)) ?_
      with_reducible refine (hortatorref7_Same.calls k t172 t173 t174 _ _ t175 t178 t179 t180 _ _ t181 t187 _ ?side1 ?side2 ?side3 ?side4 A46.out).mono ?_
      (case side1 => repeat ((exact (Kd.R_reads' HO177.out).2.2)))
      (case side2 => exact (Kd.R_reads' HO177.out).2.1)
      (case side3 => repeat ((exact (Kd.R_reads' HO183.out).2.2)))
      (case side4 => exact (Kd.R_reads' HO183.out).2.1)
      rintro e w72 ⟨rfl, hb⟩
      refine ⟨_, rfl, ?_⟩
      have n0_ := Aside0.mk (Kd.R_below (by exact HO171.out) hb)
      have n1_ := Aside0.mk (Kd.R_below (by exact HO177.out) hb)
      have n2_ := Aside0.mk (Kd.R_below (by exact HO183.out) hb)
      have n3_ := Aside0.mk (blk_below (g := gb159) (o := .cells #[.int .i64 t165, .int .i64 t166, .int .i64 t167, .int .i64 t168, .slice Ao26 t169.length co26] 24 (0, 0)) (by exact BK159.out) hb)
      have n4_ := Aside0.mk (blk_below (g := gb160) (o := .cells #[.int .i64 t172, .int .i64 t173, .int .i64 t174, .slice Ao31 t175.length co31] 27 (0, 0)) (by exact BK160.out) hb)
      have n5_ := Aside0.mk (blk_below (g := gb161) (o := .cells #[.int .i64 t178, .int .i64 t179, .int .i64 t180, .slice Ao36 t181.length co36] 27 (0, 0)) (by exact BK161.out) hb)
      have n6_ := Aside0.mk (blk_below (g := gb162) (o := .cells #[.int .i64 a3_0, .int .i64 a3_1, .int .i64 a3_2] 29 (0, 0)) (by exact BK162.out) hb)
      have n7_ := Aside0.mk (blk_below (g := gb163) (o := .cells #[.int .i64 a4_0, .int .i64 a4_1, .int .i64 a4_2, .int .i64 a4_3] 31 (0, 0)) (by exact BK163.out) hb)
      have n8_ := Aside0.mk (below_step (by repeat ((with_reducible (exact HB.out)))) hb)
      clear HO171
      clear HO177
      clear HO183
      clear BK159
      clear BK160
      clear BK161
      clear BK162
      clear BK163
      clear HB
      have HO171 := n0_
      have HO177 := n1_
      have HO183 := n2_
      have BK159 := n3_
      have BK160 := n4_
      have BK161 := n5_
      have BK162 := n6_
      have BK163 := n7_
      have HB := n8_
      clear n0_ n1_ n2_ n3_ n4_ n5_ n6_ n7_ n8_
      (try clear hb)
      (try clear hb2)
      (try clear hk)
      (try clear hi)
      refine hK.out _ _ ⟨(blk_cell BK159.out 0).trans rfl, (blk_cell BK159.out 1).trans rfl, (blk_cell BK159.out 2).trans rfl, (blk_cell BK159.out 3).trans rfl, (blk_cell BK159.out 4).trans rfl, (blk_cell BK160.out 0).trans rfl, (blk_cell BK160.out 1).trans rfl, (blk_cell BK160.out 2).trans rfl, (blk_cell BK160.out 3).trans rfl, (blk_cell BK161.out 0).trans rfl, (blk_cell BK161.out 1).trans rfl, (blk_cell BK161.out 2).trans rfl, (blk_cell BK161.out 3).trans rfl⟩ (fun hHeld => ?_)
      clear hK K
      refine norm_ (a' := ?_) ?_ ?_
      rotate_left
      ·show Act.put _ (some 35) _ = _
       simp only [Act.put, List.setIfInBounds_toArray, List.set_cons_zero, List.set_cons_succ, i64_w, i32_w]
       rfl
      refine pure_ (i := 12) (N := some 36) (v := ?_) (a' := ?_) #[true, true, true, true, true, true, true, true, true, true, true, true, true, false, false, false, false, false, false, false, false, false, false, false, false, false, false] rfl rfl (any_of HT_.out (by kernel_rfl)) (fun _ _ _ h => h) (Or.inl ⟨by rfl, ?_⟩) ?_ ?_
      rotate_left
      ·intro w'
       go_simp
       with_reducible rfl
      rotate_left
      ·simp only [Act.put, List.setIfInBounds_toArray, List.set_cons_zero, List.set_cons_succ, i64_w, i32_w]
       rfl
      refine pure_ (i := 13) (N := some 37) (v := ?_) (a' := ?_) #[true, true, true, true, true, true, true, true, true, true, true, true, true, true, false, false, false, false, false, false, false, false, false, false, false, false, false] rfl rfl (any_of HT_.out (by kernel_rfl)) (fun _ _ _ h => h) (Or.inl ⟨by rfl, ?_⟩) ?_ ?_
      rotate_left
      ·intro w'
       go_simp
       with_reducible rfl
      rotate_left
      ·simp only [Act.put, List.setIfInBounds_toArray, List.set_cons_zero, List.set_cons_succ, i64_w, i32_w]
       rfl
      refine pure_ (i := 14) (N := some 38) (v := ?_) (a' := ?_) #[true, true, true, true, true, true, true, true, true, true, true, true, true, true, true, false, false, false, false, false, false, false, false, false, false, false, false] rfl rfl (any_of HT_.out (by kernel_rfl)) (fun _ _ _ h => h) (Or.inl ⟨by rfl, ?_⟩) ?_ ?_
      rotate_left
      ·intro w'
       go_simp
       with_reducible rfl
      rotate_left
      ·simp only [Act.put, List.setIfInBounds_toArray, List.set_cons_zero, List.set_cons_succ, i64_w, i32_w]
       rfl
      refine take_ (i := 15) (N := some 39) (v := ?_) (a' := ?_) #[true, true, true, true, true, true, true, true, true, true, true, true, true, true, true, true, false, false, false, false, false, false, false, false, false, false, false] rfl rfl (take_ofW HT_.out HW_.out (by kernel_rfl)) (fun _ _ _ h => h) (Or.inl ⟨by rfl, ?_⟩) hHeld ?_ ?_
      rotate_left
      ·rintro w' ⟨s0, s1, s2, s3, s4, s5, s6, s7, s8, s9, s10, s11, s12⟩
       go_simp
       with_reducible rfl
      rotate_left
      ·simp only [Act.put, List.setIfInBounds_toArray, List.set_cons_zero, List.set_cons_succ, i64_w, i32_w]
       rfl
      refine take_ (i := 16) (N := some 40) (v := ?_) (a' := ?_) #[true, true, true, true, true, true, true, true, true, true, true, true, true, true, true, true, true, false, false, false, false, false, false, false, false, false, false] rfl rfl (take_ofW HT_.out HW_.out (by kernel_rfl)) (fun _ _ _ h => h) (Or.inl ⟨by rfl, ?_⟩) hHeld ?_ ?_
      rotate_left
      ·rintro w' ⟨s0, s1, s2, s3, s4, s5, s6, s7, s8, s9, s10, s11, s12⟩
       go_simp
       with_reducible rfl
      rotate_left
      ·simp only [Act.put, List.setIfInBounds_toArray, List.set_cons_zero, List.set_cons_succ, i64_w, i32_w]
       rfl
      refine one_ (i := 17) (N := some 41) #[true, true, true, true, true, true, true, true, true, true, true, true, true, true, true, true, true, true, false, false, false, false, false, false, false, false, false] rfl rfl (one_of HT_.out (by kernel_rfl)) (by decide) (fun K hK => ?_)
      refine goes_ Tryz.func18 (by kernel_rfl) rfl #[.agg #[.int .i64 t172, .int .i64 t173, .int .i64 t174, .slice Ao31 t175.length co31], .agg #[.int .i64 t172, .int .i64 t173, .int .i64 t174, .slice Ao31 t175.length co31]] (by rfl) rfl rfl (by (try simp only [List.map_toArray, List.map_cons, List.map_nil]); (rfl)) ?_
      with_reducible refine (rule_Same.calls k t172 t173 t174 _ _ t175 t172 t173 t174 _ _ t175 false _ ?side1 ?side2 ?side3 ?side4 A54.out).mono ?_
      (case side1 => repeat ((exact (Kd.R_reads' HO177.out).2.2)))
      (case side2 => exact (Kd.R_reads' HO177.out).2.1)
      (case side3 => repeat ((exact (Kd.R_reads' HO177.out).2.2)))
      (case side4 => exact (Kd.R_reads' HO177.out).2.1)
      rintro e w73 ⟨rfl, hb⟩
      refine ⟨_, rfl, ?_⟩
      have n0_ := Aside0.mk (Kd.R_below (by exact HO171.out) hb)
      have n1_ := Aside0.mk (Kd.R_below (by exact HO177.out) hb)
      have n2_ := Aside0.mk (Kd.R_below (by exact HO183.out) hb)
      have n3_ := Aside0.mk (blk_below (g := gb159) (o := .cells #[.int .i64 t165, .int .i64 t166, .int .i64 t167, .int .i64 t168, .slice Ao26 t169.length co26] 24 (0, 0)) (by exact BK159.out) hb)
      have n4_ := Aside0.mk (blk_below (g := gb160) (o := .cells #[.int .i64 t172, .int .i64 t173, .int .i64 t174, .slice Ao31 t175.length co31] 27 (0, 0)) (by exact BK160.out) hb)
      have n5_ := Aside0.mk (blk_below (g := gb161) (o := .cells #[.int .i64 t178, .int .i64 t179, .int .i64 t180, .slice Ao36 t181.length co36] 27 (0, 0)) (by exact BK161.out) hb)
      have n6_ := Aside0.mk (blk_below (g := gb162) (o := .cells #[.int .i64 a3_0, .int .i64 a3_1, .int .i64 a3_2] 29 (0, 0)) (by exact BK162.out) hb)
      have n7_ := Aside0.mk (blk_below (g := gb163) (o := .cells #[.int .i64 a4_0, .int .i64 a4_1, .int .i64 a4_2, .int .i64 a4_3] 31 (0, 0)) (by exact BK163.out) hb)
      have n8_ := Aside0.mk (below_step (by repeat ((with_reducible (exact HB.out)))) hb)
      clear HO171
      clear HO177
      clear HO183
      clear BK159
      clear BK160
      clear BK161
      clear BK162
      clear BK163
      clear HB
      have HO171 := n0_
      have HO177 := n1_
      have HO183 := n2_
      have BK159 := n3_
      have BK160 := n4_
      have BK161 := n5_
      have BK162 := n6_
      have BK163 := n7_
      have HB := n8_
      clear n0_ n1_ n2_ n3_ n4_ n5_ n6_ n7_ n8_
      (try clear hb)
      (try clear hb2)
      (try clear hk)
      (try clear hi)
      refine hK.out _ _ ⟨(blk_cell BK159.out 0).trans rfl, (blk_cell BK159.out 1).trans rfl, (blk_cell BK159.out 2).trans rfl, (blk_cell BK159.out 3).trans rfl, (blk_cell BK159.out 4).trans rfl, (blk_cell BK160.out 0).trans rfl, (blk_cell BK160.out 1).trans rfl, (blk_cell BK160.out 2).trans rfl, (blk_cell BK160.out 3).trans rfl, (blk_cell BK161.out 0).trans rfl, (blk_cell BK161.out 1).trans rfl, (blk_cell BK161.out 2).trans rfl, (blk_cell BK161.out 3).trans rfl⟩ (fun hHeld => ?_)
      clear hK K
      refine norm_ (a' := ?_) ?_ ?_
      rotate_left
      ·show Act.put _ (some 41) _ = _
       simp only [Act.put, List.setIfInBounds_toArray, List.set_cons_zero, List.set_cons_succ, i64_w, i32_w]
       rfl
      refine pure_ (i := 18) (N := some 42) (v := ?_) (a' := ?_) #[true, true, true, true, true, true, true, true, true, true, true, true, true, true, true, true, true, true, true, false, false, false, false, false, false, false, false] rfl rfl (any_of HT_.out (by kernel_rfl)) (fun _ _ _ h => h) (Or.inl ⟨by rfl, ?_⟩) ?_ ?_
      rotate_left
      ·intro w'
       go_simp
       with_reducible rfl
      rotate_left
      ·simp only [Act.put, List.setIfInBounds_toArray, List.set_cons_zero, List.set_cons_succ, i64_w, i32_w]
       rfl
      refine pure_ (i := 19) (N := some 43) (v := ?_) (a' := ?_) #[true, true, true, true, true, true, true, true, true, true, true, true, true, true, true, true, true, true, true, true, false, false, false, false, false, false, false] rfl rfl (any_of HT_.out (by kernel_rfl)) (fun _ _ _ h => h) (Or.inl ⟨by rfl, ?_⟩) ?_ ?_
      rotate_left
      ·intro w'
       go_simp
       with_reducible rfl
      rotate_left
      ·simp only [Act.put, List.setIfInBounds_toArray, List.set_cons_zero, List.set_cons_succ, i64_w, i32_w]
       rfl
      refine pure_ (i := 20) (N := some 44) (v := ?_) (a' := ?_) #[true, true, true, true, true, true, true, true, true, true, true, true, true, true, true, true, true, true, true, true, true, false, false, false, false, false, false] rfl rfl (any_of HT_.out (by kernel_rfl)) (fun _ _ _ h => h) (Or.inl ⟨by rfl, ?_⟩) ?_ ?_
      rotate_left
      ·intro w'
       go_simp
       with_reducible rfl
      rotate_left
      ·simp only [Act.put, List.setIfInBounds_toArray, List.set_cons_zero, List.set_cons_succ, i64_w, i32_w]
       rfl
      refine pure_ (i := 21) (N := some 45) (v := undef) (a' := ?_) #[true, true, true, true, true, true, true, true, true, true, true, true, true, true, true, true, true, true, true, true, true, true, false, false, false, false, false] rfl rfl (any_of HT_.out (by kernel_rfl)) (fun _ _ _ h => h) (Or.inr ⟨by rfl, rfl⟩) ?_ ?_
      rotate_left
      ·simp only [Act.put, List.setIfInBounds_toArray, List.set_cons_zero, List.set_cons_succ, i64_w, i32_w]
       rfl
      refine pure_ (i := 22) (N := some 46) (v := undef) (a' := ?_) #[true, true, true, true, true, true, true, true, true, true, true, true, true, true, true, true, true, true, true, true, true, true, true, false, false, false, false] rfl rfl (any_of HT_.out (by kernel_rfl)) (fun _ _ _ h => h) (Or.inr ⟨by rfl, rfl⟩) ?_ ?_
      rotate_left
      ·simp only [Act.put, List.setIfInBounds_toArray, List.set_cons_zero, List.set_cons_succ, i64_w, i32_w]
       rfl
      refine pure_ (i := 23) (N := some 47) (v := undef) (a' := ?_) #[true, true, true, true, true, true, true, true, true, true, true, true, true, true, true, true, true, true, true, true, true, true, true, true, false, false, false] rfl rfl (any_of HT_.out (by kernel_rfl)) (fun _ _ _ h => h) (Or.inr ⟨by rfl, rfl⟩) ?_ ?_
      rotate_left
      ·simp only [Act.put, List.setIfInBounds_toArray, List.set_cons_zero, List.set_cons_succ, i64_w, i32_w]
       rfl
      refine pure_ (i := 24) (N := some 48) (v := undef) (a' := ?_) #[true, true, true, true, true, true, true, true, true, true, true, true, true, true, true, true, true, true, true, true, true, true, true, true, true, false, false] rfl rfl (any_of HT_.out (by kernel_rfl)) (fun _ _ _ h => h) (Or.inr ⟨by rfl, rfl⟩) ?_ ?_
      rotate_left
      ·simp only [Act.put, List.setIfInBounds_toArray, List.set_cons_zero, List.set_cons_succ, i64_w, i32_w]
       rfl
      refine pure_ (i := 25) (N := some 49) (v := undef) (a' := ?_) #[true, true, true, true, true, true, true, true, true, true, true, true, true, true, true, true, true, true, true, true, true, true, true, true, true, true, false] rfl rfl (any_of HT_.out (by kernel_rfl)) (fun _ _ _ h => h) (Or.inr ⟨by rfl, rfl⟩) ?_ ?_
      rotate_left
      ·simp only [Act.put, List.setIfInBounds_toArray, List.set_cons_zero, List.set_cons_succ, i64_w, i32_w]
       rfl
      refine pure_ (i := 26) (N := some 50) (v := ?_) (a' := ?_) #[true, true, true, true, true, true, true, true, true, true, true, true, true, true, true, true, true, true, true, true, true, true, true, true, true, true, true] rfl rfl (any_of HT_.out (by kernel_rfl)) (fun _ _ _ h => h) (Or.inl ⟨by rfl, ?_⟩) ?_ ?_
      rotate_left
      ·intro w'
       go_simp
       with_reducible rfl
      rotate_left
      ·simp only [Act.put, List.setIfInBounds_toArray, List.set_cons_zero, List.set_cons_succ, i64_w, i32_w]
       rfl
      refine done_ (done_of HT_.out (by kernel_rfl)) ?_
      try go_wp2
      go_meet
      case rel => exact ⟨_, (true), (by (rfl)), H', ⟨by (omega)⟩, ⟨by exact HO171.out⟩, ⟨by exact HO177.out⟩, ⟨by exact HO183.out⟩, ⟨by exact BK159.out⟩, ⟨by exact BK160.out⟩, ⟨by exact BK161.out⟩, ⟨by exact BK162.out⟩, ⟨by exact BK163.out⟩, ⟨by repeat ((with_reducible (exact HB.out)))⟩⟩
  case rest =>
   clear HC11
   obtain ⟨kq, x50_10, rfl, HA, HJ10, HO_160004, HO_161003, HO_162003, BK159, BK160, BK161, BK162, BK163, HB⟩ := hcut
   cases kq with
   | zero => exact absurd HA.out (by simp [hortatorlaw7_RuleAll.j0])
   | succ kj10 =>
    have H := HA.out
    clear HA
    simp only [hortatorlaw7_RuleAll.j0] at H
    by_cases c74 : x50_10 = true
    ·subst c74
     have H1 : (none) = some r := by rw [if_pos rfl] at H; exact H
     clear H
     have H := H1
     clear H1
     exact absurd H (by simp)
    ·replace c74 := Bool.eq_false_iff.mpr c74
     subst c74
     have H1 : ((hortatorref7_Config.f kj10 t165 t166 t167 t168 t169).bind fun t191 => (if t191 = true then ((rule_Task.f kj10 t165 t166 t167 t168 t169 t172 t173 t174 t175).bind fun t192 => ((hortatorref7_Task.f t165 t166 t167 t168 t169 t172 t173 t174 t175).bind fun t193 => (if (t192 != t193) = true then (hortatorlaw7_RuleAll.j1 kj10 true t165 t166 t167 t168 t169 t172 t173 t174 t175) else ((rule_Piece.f t165 t166 t167 t168 t169 a4_0 a4_1 a4_2 a4_3).bind fun t194 => ((hortatorref7_Piece.f t165 t166 t167 t168 t169 a4_0 a4_1 a4_2 a4_3).bind fun t195 => (hortatorlaw7_RuleAll.j1 kj10 (t194 != t195) t165 t166 t167 t168 t169 t172 t173 t174 t175)))))) else (some true))) = some r := by rw [if_neg (show ¬ (false = true) by decide)] at H; exact H
     clear H
     have H := H1
     clear H1
     replace H := Option.bind_eq_some_iff.mp H
     obtain ⟨t191, A750, H⟩ := H
     have A75 := Aside0.mk A750
     clear A750
     by_cases c76 : t191 = true
     ·subst c76
      have H1 : ((rule_Task.f kj10 t165 t166 t167 t168 t169 t172 t173 t174 t175).bind fun t192 => ((hortatorref7_Task.f t165 t166 t167 t168 t169 t172 t173 t174 t175).bind fun t193 => (if (t192 != t193) = true then (hortatorlaw7_RuleAll.j1 kj10 true t165 t166 t167 t168 t169 t172 t173 t174 t175) else ((rule_Piece.f t165 t166 t167 t168 t169 a4_0 a4_1 a4_2 a4_3).bind fun t194 => ((hortatorref7_Piece.f t165 t166 t167 t168 t169 a4_0 a4_1 a4_2 a4_3).bind fun t195 => (hortatorlaw7_RuleAll.j1 kj10 (t194 != t195) t165 t166 t167 t168 t169 t172 t173 t174 t175)))))) = some r := by rw [if_pos rfl] at H; exact H
      clear H
      have H := H1
      clear H1
      have HC77 := Aside0.mk H
      clear H
      have hnb78 := NB159_160.out
      have hnc78 := NB160_159.out
      have hnb79 := NB159_161.out
      have hnc79 := NB161_159.out
      have hnb80 := NB159_162.out
      have hnc80 := NB162_159.out
      have hnb81 := NB159_163.out
      have hnc81 := NB163_159.out
      have hcz82_0 : wc.cell? ⟨gb159, 0, none⟩ = some (.int .i64 t165) := (blk_cell BK159.out 0).trans rfl
      have hcz82_1 : wc.cell? ⟨gb159, 1, none⟩ = some (.int .i64 t166) := (blk_cell BK159.out 1).trans rfl
      have hcz82_2 : wc.cell? ⟨gb159, 2, none⟩ = some (.int .i64 t167) := (blk_cell BK159.out 2).trans rfl
      have hcz82_3 : wc.cell? ⟨gb159, 3, none⟩ = some (.int .i64 t168) := (blk_cell BK159.out 3).trans rfl
      have hcz82_4 : wc.cell? ⟨gb159, 4, none⟩ = some (.slice Ao26 t169.length co26) := (blk_cell BK159.out 4).trans rfl
      have hfz82_0 := blk_frozen BK159.out 0
      have hfz82_1 := blk_frozen BK159.out 1
      have hfz82_2 := blk_frozen BK159.out 2
      have hfz82_3 := blk_frozen BK159.out 3
      have hfz82_4 := blk_frozen BK159.out 4
      go_upto_region 9 with (((with_reducible refine gate_callee (f := 17) rfl ?_); refine goesL_ (some 52) rfl rfl Tryz.func17 (by kernel_rfl) rfl #[.agg #[.int .i64 t165, .int .i64 t166, .int .i64 t167, .int .i64 t168, .slice Ao26 t169.length co26]] rfl (by (try simp only [List.map_toArray, List.map_cons, List.map_nil]); (rfl)) ?_; (with_reducible refine (hortatorref7_Config.calls kj10 t165 t166 t167 t168 _ _ t169 true _ ?side1 ?side2 A75.out).mono ?_); (case side1 => repeat ((exact (Kd.R_reads' HO_160004.out).2.2))); (case side2 => exact (Kd.R_reads' HO_160004.out).2.1); rintro e w83 ⟨rfl, hb⟩; refine ⟨_, rfl, ?_⟩; have n0_ := Aside0.mk (Kd.R_below (by exact HO_160004.out) hb); have n1_ := Aside0.mk (Kd.R_below (by exact HO_161003.out) hb); have n2_ := Aside0.mk (Kd.R_below (by exact HO_162003.out) hb); have n3_ := Aside0.mk (blk_below (g := gb159) (o := .cells #[.int .i64 t165, .int .i64 t166, .int .i64 t167, .int .i64 t168, .slice Ao26 t169.length co26] 24 (0, 0)) (by exact BK159.out) hb); have n4_ := Aside0.mk (blk_below (g := gb160) (o := .cells #[.int .i64 t172, .int .i64 t173, .int .i64 t174, .slice Ao31 t175.length co31] 27 (0, 0)) (by exact BK160.out) hb); have n5_ := Aside0.mk (blk_below (g := gb161) (o := .cells #[.int .i64 t178, .int .i64 t179, .int .i64 t180, .slice Ao36 t181.length co36] 27 (0, 0)) (by exact BK161.out) hb); have n6_ := Aside0.mk (blk_below (g := gb162) (o := .cells #[.int .i64 a3_0, .int .i64 a3_1, .int .i64 a3_2] 29 (0, 0)) (by exact BK162.out) hb); have n7_ := Aside0.mk (blk_below (g := gb163) (o := .cells #[.int .i64 a4_0, .int .i64 a4_1, .int .i64 a4_2, .int .i64 a4_3] 31 (0, 0)) (by exact BK163.out) hb); have n8_ := Aside0.mk (below_step (by repeat ((with_reducible (exact HB.out)))) hb); clear HO_160004; clear HO_161003; clear HO_162003; clear BK159; clear BK160; clear BK161; clear BK162; clear BK163; clear HB; have HO_160004 := n0_; have HO_161003 := n1_; have HO_162003 := n2_; have BK159 := n3_; have BK160 := n4_; have BK161 := n5_; have BK162 := n6_; have BK163 := n7_; have HB := n8_; clear n0_ n1_ n2_ n3_ n4_ n5_ n6_ n7_ n8_; (try clear hb); (try clear hb2); (try clear hk); (try clear hi)))
      (try simp only [Act.put, List.setIfInBounds_toArray, List.set_cons_zero, List.set_cons_succ])
      go_cut [69] (fun v69 wc => ∃ (kq : Nat) (x69_76 : Bool), v69 = .bool x69_76 ∧ Aside0 (hortatorlaw7_RuleAll.j1 kq x69_76 t165 t166 t167 t168 t169 t172 t173 t174 t175 = some r) ∧ Aside0 (kq ≤ kj10) ∧ Aside0 (Kd.R (Kd.int .i64) 3 wc w.heap.size (fun _ => True) (.slice Ao26 t169.length co26) t169) ∧ Aside0 (Kd.R k43 43 wc w.heap.size (fun k_ => some k_ ≠ ((.slice Ao36 t181.length co36) : Value).ownBlock) (.slice Ao31 t175.length co31) t175) ∧ Aside0 (Kd.R k43 43 wc w.heap.size (fun k_ => some k_ ≠ ((.slice Ao31 t175.length co31) : Value).ownBlock) (.slice Ao36 t181.length co36) t181) ∧ Aside0 (wc.heap[gb159]? = some (.cells #[.int .i64 t165, .int .i64 t166, .int .i64 t167, .int .i64 t168, (.slice Ao26 t169.length co26)] 24 (0, 0))) ∧ Aside0 (wc.heap[gb160]? = some (.cells #[.int .i64 t172, .int .i64 t173, .int .i64 t174, (.slice Ao31 t175.length co31)] 27 (0, 0))) ∧ Aside0 (wc.heap[gb161]? = some (.cells #[.int .i64 t178, .int .i64 t179, .int .i64 t180, (.slice Ao36 t181.length co36)] 27 (0, 0))) ∧ Aside0 (wc.heap[gb162]? = some (.cells #[.int .i64 a3_0, .int .i64 a3_1, .int .i64 a3_2] 29 (0, 0))) ∧ Aside0 (wc.heap[gb163]? = some (.cells #[.int .i64 a4_0, .int .i64 a4_1, .int .i64 a4_2, .int .i64 a4_3] 31 (0, 0))) ∧ Aside0 (Below w.heap.size w wc))
      case first =>
       have H := HC77.out
       clear HC77
       replace H := Option.bind_eq_some_iff.mp H
       obtain ⟨t192, A840, H⟩ := H
       have A84 := Aside0.mk A840
       clear A840
       replace H := Option.bind_eq_some_iff.mp H
       obtain ⟨t193, A850, H⟩ := H
       have A85 := Aside0.mk A850
       clear A850
       by_cases c86 : (t192 != t193) = true
       ·rw [if_pos c86] at H
        have c86b0 : (t192 != t193) = true := c86
        (try (have c86b1 : decide (t192 = t193) = false := by simpa using c86))
        (try (have c86b2 : (t192 == t193) = false := by simpa using c86))
        (try (have c86b3 : ¬ (t192 = t193) := by simpa using c86))
        clear c86
        ((skip))
        have H' := Aside0.mk H
        clear H
        try go_wp2
        have n0_ := Aside0.mk (Kd.R_drew HO_160004.out)
        have n1_ := Aside0.mk (Kd.R_drew HO_161003.out)
        have n2_ := Aside0.mk (Kd.R_drew HO_162003.out)
        have n3_ := Aside0.mk (blk_drew BK159.out)
        have n4_ := Aside0.mk (blk_drew BK160.out)
        have n5_ := Aside0.mk (blk_drew BK161.out)
        have n6_ := Aside0.mk (blk_drew BK162.out)
        have n7_ := Aside0.mk (blk_drew BK163.out)
        have n8_ := Aside0.mk (below_drew1 HB.out)
        clear HO_160004
        clear HO_161003
        clear HO_162003
        clear BK159
        clear BK160
        clear BK161
        clear BK162
        clear BK163
        clear HB
        have HO_160004 := n0_
        have HO_161003 := n1_
        have HO_162003 := n2_
        have BK159 := n3_
        have BK160 := n4_
        have BK161 := n5_
        have BK162 := n6_
        have BK163 := n7_
        have HB := n8_
        clear n0_ n1_ n2_ n3_ n4_ n5_ n6_ n7_ n8_
        refine start_ (n := 16) (S := fun w' => w'.cell? ⟨gb159, 0, none⟩ = some (.int .i64 t165) ∧ w'.cell? ⟨gb159, 1, none⟩ = some (.int .i64 t166) ∧ w'.cell? ⟨gb159, 2, none⟩ = some (.int .i64 t167) ∧ w'.cell? ⟨gb159, 3, none⟩ = some (.int .i64 t168) ∧ w'.cell? ⟨gb159, 4, none⟩ = some (.slice Ao26 t169.length co26) ∧ w'.cell? ⟨gb160, 0, none⟩ = some (.int .i64 t172) ∧ w'.cell? ⟨gb160, 1, none⟩ = some (.int .i64 t173) ∧ w'.cell? ⟨gb160, 2, none⟩ = some (.int .i64 t174) ∧ w'.cell? ⟨gb160, 3, none⟩ = some (.slice Ao31 t175.length co31)) (ds := []) #[false, false, false, false, false, false, false, false, false, false, false, false, false, false, false, false] (by kernel_rfl) rfl rfl ⟨(blk_cell BK159.out 0).trans rfl, (blk_cell BK159.out 1).trans rfl, (blk_cell BK159.out 2).trans rfl, (blk_cell BK159.out 3).trans rfl, (blk_cell BK159.out 4).trans rfl, (blk_cell BK160.out 0).trans rfl, (blk_cell BK160.out 1).trans rfl, (blk_cell BK160.out 2).trans rfl, (blk_cell BK160.out 3).trans rfl⟩ (fun hHeld => ?_); refine with_tabW hortatorlaw7_RuleAll.tab9 hortatorlaw7_RuleAll.bits9 (fun HT_ HW_ => ?_)
        generalize w83.drew = w87 at HO_160004 HO_161003 HO_162003 BK159 BK160 BK161 BK162 BK163 HB hHeld ⊢
        refine take_ (i := 0) (N := some 54) (v := ?_) (a' := ?_) #[true, false, false, false, false, false, false, false, false, false, false, false, false, false, false, false] rfl rfl (take_ofW HT_.out HW_.out (by kernel_rfl)) (fun _ _ _ h => h) (Or.inl ⟨by rfl, ?_⟩) hHeld ?_ ?_
        rotate_left
        ·rintro w' ⟨s0, s1, s2, s3, s4, s5, s6, s7, s8⟩
         go_simp
         with_reducible rfl
        rotate_left
        ·simp only [Act.put, List.setIfInBounds_toArray, List.set_cons_zero, List.set_cons_succ, i64_w, i32_w]
         rfl
        refine take_ (i := 1) (N := some 55) (v := ?_) (a' := ?_) #[true, true, false, false, false, false, false, false, false, false, false, false, false, false, false, false] rfl rfl (take_ofW HT_.out HW_.out (by kernel_rfl)) (fun _ _ _ h => h) (Or.inl ⟨by rfl, ?_⟩) hHeld ?_ ?_
        rotate_left
        ·rintro w' ⟨s0, s1, s2, s3, s4, s5, s6, s7, s8⟩
         go_simp
         with_reducible rfl
        rotate_left
        ·simp only [Act.put, List.setIfInBounds_toArray, List.set_cons_zero, List.set_cons_succ, i64_w, i32_w]
         rfl
        refine take_ (i := 3) (N := some 57) (v := ?_) (a' := ?_) #[true, true, false, true, false, false, false, false, false, false, false, false, false, false, false, false] rfl rfl (take_ofW HT_.out HW_.out (by kernel_rfl)) (fun _ _ _ h => h) (Or.inl ⟨by rfl, ?_⟩) hHeld ?_ ?_
        rotate_left
        ·rintro w' ⟨s0, s1, s2, s3, s4, s5, s6, s7, s8⟩
         go_simp
         with_reducible rfl
        rotate_left
        ·simp only [Act.put, List.setIfInBounds_toArray, List.set_cons_zero, List.set_cons_succ, i64_w, i32_w]
         rfl
        refine take_ (i := 4) (N := some 58) (v := ?_) (a' := ?_) #[true, true, false, true, true, false, false, false, false, false, false, false, false, false, false, false] rfl rfl (take_ofW HT_.out HW_.out (by kernel_rfl)) (fun _ _ _ h => h) (Or.inl ⟨by rfl, ?_⟩) hHeld ?_ ?_
        rotate_left
        ·rintro w' ⟨s0, s1, s2, s3, s4, s5, s6, s7, s8⟩
         go_simp
         with_reducible rfl
        rotate_left
        ·simp only [Act.put, List.setIfInBounds_toArray, List.set_cons_zero, List.set_cons_succ, i64_w, i32_w]
         rfl
        refine one_ (i := 2) (N := some 56) #[true, true, true, true, true, false, false, false, false, false, false, false, false, false, false, false] rfl rfl (one_of HT_.out (by kernel_rfl)) (by decide) (fun K hK => ?_)
        refine goes_ Tryz.func22 (by kernel_rfl) rfl #[.agg #[.int .i64 t165, .int .i64 t166, .int .i64 t167, .int .i64 t168, .slice Ao26 t169.length co26], .agg #[.int .i64 t172, .int .i64 t173, .int .i64 t174, .slice Ao31 t175.length co31]] (by rfl) rfl rfl (by (try simp only [List.map_toArray, List.map_cons, List.map_nil]); (rfl)) ?_
        with_reducible refine (rule_Task.calls kj10 t165 t166 t167 t168 _ _ t169 t172 t173 t174 _ _ t175 t192 _ ?side1 ?side2 ?side3 ?side4 A84.out).mono ?_
        (case side1 => repeat ((exact (Kd.R_reads' HO_160004.out).2.2)))
        (case side2 => exact (Kd.R_reads' HO_160004.out).2.1)
        (case side3 => repeat ((exact (Kd.R_reads' HO_161003.out).2.2)))
        (case side4 => exact (Kd.R_reads' HO_161003.out).2.1)
        rintro e w88 ⟨rfl, hb⟩
        refine ⟨_, rfl, ?_⟩
        have n0_ := Aside0.mk (Kd.R_below (by exact HO_160004.out) hb)
        have n1_ := Aside0.mk (Kd.R_below (by exact HO_161003.out) hb)
        have n2_ := Aside0.mk (Kd.R_below (by exact HO_162003.out) hb)
        have n3_ := Aside0.mk (blk_below (g := gb159) (o := .cells #[.int .i64 t165, .int .i64 t166, .int .i64 t167, .int .i64 t168, .slice Ao26 t169.length co26] 24 (0, 0)) (by exact BK159.out) hb)
        have n4_ := Aside0.mk (blk_below (g := gb160) (o := .cells #[.int .i64 t172, .int .i64 t173, .int .i64 t174, .slice Ao31 t175.length co31] 27 (0, 0)) (by exact BK160.out) hb)
        have n5_ := Aside0.mk (blk_below (g := gb161) (o := .cells #[.int .i64 t178, .int .i64 t179, .int .i64 t180, .slice Ao36 t181.length co36] 27 (0, 0)) (by exact BK161.out) hb)
        have n6_ := Aside0.mk (blk_below (g := gb162) (o := .cells #[.int .i64 a3_0, .int .i64 a3_1, .int .i64 a3_2] 29 (0, 0)) (by exact BK162.out) hb)
        have n7_ := Aside0.mk (blk_below (g := gb163) (o := .cells #[.int .i64 a4_0, .int .i64 a4_1, .int .i64 a4_2, .int .i64 a4_3] 31 (0, 0)) (by exact BK163.out) hb)
        have n8_ := Aside0.mk (below_step (by repeat ((with_reducible (exact HB.out)))) hb)
        clear HO_160004
        clear HO_161003
        clear HO_162003
        clear BK159
        clear BK160
        clear BK161
        clear BK162
        clear BK163
        clear HB
        have HO_160004 := n0_
        have HO_161003 := n1_
        have HO_162003 := n2_
        have BK159 := n3_
        have BK160 := n4_
        have BK161 := n5_
        have BK162 := n6_
        have BK163 := n7_
        have HB := n8_
        clear n0_ n1_ n2_ n3_ n4_ n5_ n6_ n7_ n8_
        (try clear hb)
        (try clear hb2)
        (try clear hk)
        (try clear hi)
        refine hK.out _ _ ⟨(blk_cell BK159.out 0).trans rfl, (blk_cell BK159.out 1).trans rfl, (blk_cell BK159.out 2).trans rfl, (blk_cell BK159.out 3).trans rfl, (blk_cell BK159.out 4).trans rfl, (blk_cell BK160.out 0).trans rfl, (blk_cell BK160.out 1).trans rfl, (blk_cell BK160.out 2).trans rfl, (blk_cell BK160.out 3).trans rfl⟩ (fun hHeld => ?_)
        clear hK K
        refine norm_ (a' := ?_) ?_ ?_
        rotate_left
        ·show Act.put _ (some 56) _ = _
         simp only [Act.put, List.setIfInBounds_toArray, List.set_cons_zero, List.set_cons_succ, i64_w, i32_w]
         rfl
        refine one_ (i := 5) (N := some 59) #[true, true, true, true, true, true, false, false, false, false, false, false, false, false, false, false] rfl rfl (one_of HT_.out (by kernel_rfl)) (by decide) (fun K hK => ?_)
        refine goes_ Tryz.func23 (by kernel_rfl) rfl #[.agg #[.int .i64 t165, .int .i64 t166, .int .i64 t167, .int .i64 t168, .slice Ao26 t169.length co26], .agg #[.int .i64 t172, .int .i64 t173, .int .i64 t174, .slice Ao31 t175.length co31]] (by rfl) rfl rfl (by (try simp only [List.map_toArray, List.map_cons, List.map_nil]); (rfl)) ?_
        with_reducible refine (hortatorref7_Task.calls t165 t166 t167 t168 _ _ t169 t172 t173 t174 _ _ t175 t193 _ ?side1 ?side2 ?side3 ?side4 A85.out).mono ?_
        (case side1 => repeat ((exact (Kd.R_reads' HO_160004.out).2.2)))
        (case side2 => exact (Kd.R_reads' HO_160004.out).2.1)
        (case side3 => repeat ((exact (Kd.R_reads' HO_161003.out).2.2)))
        (case side4 => exact (Kd.R_reads' HO_161003.out).2.1)
        rintro e w89 ⟨rfl, hb⟩
        refine ⟨_, rfl, ?_⟩
        have n0_ := Aside0.mk (Kd.R_below (by exact HO_160004.out) hb)
        have n1_ := Aside0.mk (Kd.R_below (by exact HO_161003.out) hb)
        have n2_ := Aside0.mk (Kd.R_below (by exact HO_162003.out) hb)
        have n3_ := Aside0.mk (blk_below (g := gb159) (o := .cells #[.int .i64 t165, .int .i64 t166, .int .i64 t167, .int .i64 t168, .slice Ao26 t169.length co26] 24 (0, 0)) (by exact BK159.out) hb)
        have n4_ := Aside0.mk (blk_below (g := gb160) (o := .cells #[.int .i64 t172, .int .i64 t173, .int .i64 t174, .slice Ao31 t175.length co31] 27 (0, 0)) (by exact BK160.out) hb)
        have n5_ := Aside0.mk (blk_below (g := gb161) (o := .cells #[.int .i64 t178, .int .i64 t179, .int .i64 t180, .slice Ao36 t181.length co36] 27 (0, 0)) (by exact BK161.out) hb)
        have n6_ := Aside0.mk (blk_below (g := gb162) (o := .cells #[.int .i64 a3_0, .int .i64 a3_1, .int .i64 a3_2] 29 (0, 0)) (by exact BK162.out) hb)
        have n7_ := Aside0.mk (blk_below (g := gb163) (o := .cells #[.int .i64 a4_0, .int .i64 a4_1, .int .i64 a4_2, .int .i64 a4_3] 31 (0, 0)) (by exact BK163.out) hb)
        have n8_ := Aside0.mk (below_step (by repeat ((with_reducible (exact HB.out)))) hb)
        clear HO_160004
        clear HO_161003
        clear HO_162003
        clear BK159
        clear BK160
        clear BK161
        clear BK162
        clear BK163
        clear HB
        have HO_160004 := n0_
        have HO_161003 := n1_
        have HO_162003 := n2_
        have BK159 := n3_
        have BK160 := n4_
        have BK161 := n5_
        have BK162 := n6_
        have BK163 := n7_
        have HB := n8_
        clear n0_ n1_ n2_ n3_ n4_ n5_ n6_ n7_ n8_
        (try clear hb)
        (try clear hb2)
        (try clear hk)
        (try clear hi)
        refine hK.out _ _ ⟨(blk_cell BK159.out 0).trans rfl, (blk_cell BK159.out 1).trans rfl, (blk_cell BK159.out 2).trans rfl, (blk_cell BK159.out 3).trans rfl, (blk_cell BK159.out 4).trans rfl, (blk_cell BK160.out 0).trans rfl, (blk_cell BK160.out 1).trans rfl, (blk_cell BK160.out 2).trans rfl, (blk_cell BK160.out 3).trans rfl⟩ (fun hHeld => ?_)
        clear hK K
        refine norm_ (a' := ?_) ?_ ?_
        rotate_left
        ·show Act.put _ (some 59) _ = _
         simp only [Act.put, List.setIfInBounds_toArray, List.set_cons_zero, List.set_cons_succ, i64_w, i32_w]
         rfl
        refine pure_ (i := 6) (N := some 60) (v := ?_) (a' := ?_) #[true, true, true, true, true, true, true, false, false, false, false, false, false, false, false, false] rfl rfl (any_of HT_.out (by kernel_rfl)) (fun _ _ _ h => h) (Or.inl ⟨by rfl, ?_⟩) ?_ ?_
        rotate_left
        ·intro w'
         go_simp
         with_reducible rfl
        rotate_left
        ·simp only [Act.put, List.setIfInBounds_toArray, List.set_cons_zero, List.set_cons_succ, i64_w, i32_w]
         rfl
        refine pure_ (i := 7) (N := some 61) (v := ?_) (a' := ?_) #[true, true, true, true, true, true, true, true, false, false, false, false, false, false, false, false] rfl rfl (any_of HT_.out (by kernel_rfl)) (fun _ _ _ h => h) (Or.inl ⟨by rfl, ?_⟩) ?_ ?_
        rotate_left
        ·intro w'
         go_simp
         with_reducible rfl
        rotate_left
        ·simp only [Act.put, List.setIfInBounds_toArray, List.set_cons_zero, List.set_cons_succ, i64_w, i32_w]
         rfl
        refine pure_ (i := 8) (N := some 62) (v := undef) (a' := ?_) #[true, true, true, true, true, true, true, true, true, false, false, false, false, false, false, false] rfl rfl (any_of HT_.out (by kernel_rfl)) (fun _ _ _ h => h) (Or.inr ⟨by rfl, rfl⟩) ?_ ?_
        rotate_left
        ·simp only [Act.put, List.setIfInBounds_toArray, List.set_cons_zero, List.set_cons_succ, i64_w, i32_w]
         rfl
        refine pure_ (i := 9) (N := some 63) (v := undef) (a' := ?_) #[true, true, true, true, true, true, true, true, true, true, false, false, false, false, false, false] rfl rfl (any_of HT_.out (by kernel_rfl)) (fun _ _ _ h => h) (Or.inr ⟨by rfl, rfl⟩) ?_ ?_
        rotate_left
        ·simp only [Act.put, List.setIfInBounds_toArray, List.set_cons_zero, List.set_cons_succ, i64_w, i32_w]
         rfl
        refine pure_ (i := 10) (N := some 64) (v := undef) (a' := ?_) #[true, true, true, true, true, true, true, true, true, true, true, false, false, false, false, false] rfl rfl (any_of HT_.out (by kernel_rfl)) (fun _ _ _ h => h) (Or.inr ⟨by rfl, rfl⟩) ?_ ?_
        rotate_left
        ·simp only [Act.put, List.setIfInBounds_toArray, List.set_cons_zero, List.set_cons_succ, i64_w, i32_w]
         rfl
        refine pure_ (i := 11) (N := some 65) (v := undef) (a' := ?_) #[true, true, true, true, true, true, true, true, true, true, true, true, false, false, false, false] rfl rfl (any_of HT_.out (by kernel_rfl)) (fun _ _ _ h => h) (Or.inr ⟨by rfl, rfl⟩) ?_ ?_
        rotate_left
        ·simp only [Act.put, List.setIfInBounds_toArray, List.set_cons_zero, List.set_cons_succ, i64_w, i32_w]
         rfl
        refine pure_ (i := 12) (N := some 66) (v := undef) (a' := ?_) #[true, true, true, true, true, true, true, true, true, true, true, true, true, false, false, false] rfl rfl (any_of HT_.out (by kernel_rfl)) (fun _ _ _ h => h) (Or.inr ⟨by rfl, rfl⟩) ?_ ?_
        rotate_left
        ·simp only [Act.put, List.setIfInBounds_toArray, List.set_cons_zero, List.set_cons_succ, i64_w, i32_w]
         rfl
        refine pure_ (i := 13) (N := some 67) (v := undef) (a' := ?_) #[true, true, true, true, true, true, true, true, true, true, true, true, true, true, false, false] rfl rfl (any_of HT_.out (by kernel_rfl)) (fun _ _ _ h => h) (Or.inr ⟨by rfl, rfl⟩) ?_ ?_
        rotate_left
        ·simp only [Act.put, List.setIfInBounds_toArray, List.set_cons_zero, List.set_cons_succ, i64_w, i32_w]
         rfl
        refine pure_ (i := 14) (N := some 68) (v := undef) (a' := ?_) #[true, true, true, true, true, true, true, true, true, true, true, true, true, true, true, false] rfl rfl (any_of HT_.out (by kernel_rfl)) (fun _ _ _ h => h) (Or.inr ⟨by rfl, rfl⟩) ?_ ?_
        rotate_left
        ·simp only [Act.put, List.setIfInBounds_toArray, List.set_cons_zero, List.set_cons_succ, i64_w, i32_w]
         rfl
        refine pure_ (i := 15) (N := some 69) (v := ?_) (a' := ?_) #[true, true, true, true, true, true, true, true, true, true, true, true, true, true, true, true] rfl rfl (any_of HT_.out (by kernel_rfl)) (fun _ _ _ h => h) (Or.inl ⟨by rfl, ?_⟩) ?_ ?_
        rotate_left
        ·intro w'
         go_simp
         with_reducible rfl
        rotate_left
        ·simp only [Act.put, List.setIfInBounds_toArray, List.set_cons_zero, List.set_cons_succ, i64_w, i32_w]
         rfl
        refine done_ (done_of HT_.out (by kernel_rfl)) ?_
        try go_wp2
        go_meet
        case rel => exact ⟨_, (true), (by (rfl)), H', ⟨by have := HJ10.out; (omega)⟩, ⟨by exact HO_160004.out⟩, ⟨by exact HO_161003.out⟩, ⟨by exact HO_162003.out⟩, ⟨by exact BK159.out⟩, ⟨by exact BK160.out⟩, ⟨by exact BK161.out⟩, ⟨by exact BK162.out⟩, ⟨by exact BK163.out⟩, ⟨by repeat ((with_reducible (exact HB.out)))⟩⟩
       ·rw [if_neg c86] at H
        have c86b0 : (t192 != t193) = false := by simpa using c86
        (try (have c86b1 : decide (t192 = t193) = true := by simpa using c86))
        (try (have c86b2 : (t192 == t193) = true := by simpa using c86))
        clear c86
        ((skip))
        replace H := Option.bind_eq_some_iff.mp H
        obtain ⟨t194, A900, H⟩ := H
        have A90 := Aside0.mk A900
        clear A900
        replace H := Option.bind_eq_some_iff.mp H
        obtain ⟨t195, A910, H⟩ := H
        have A91 := Aside0.mk A910
        clear A910
        have H' := Aside0.mk H
        clear H
        try go_wp2
        have n0_ := Aside0.mk (Kd.R_drew HO_160004.out)
        have n1_ := Aside0.mk (Kd.R_drew HO_161003.out)
        have n2_ := Aside0.mk (Kd.R_drew HO_162003.out)
        have n3_ := Aside0.mk (blk_drew BK159.out)
        have n4_ := Aside0.mk (blk_drew BK160.out)
        have n5_ := Aside0.mk (blk_drew BK161.out)
        have n6_ := Aside0.mk (blk_drew BK162.out)
        have n7_ := Aside0.mk (blk_drew BK163.out)
        have n8_ := Aside0.mk (below_drew1 HB.out)
        clear HO_160004
        clear HO_161003
        clear HO_162003
        clear BK159
        clear BK160
        clear BK161
        clear BK162
        clear BK163
        clear HB
        have HO_160004 := n0_
        have HO_161003 := n1_
        have HO_162003 := n2_
        have BK159 := n3_
        have BK160 := n4_
        have BK161 := n5_
        have BK162 := n6_
        have BK163 := n7_
        have HB := n8_
        clear n0_ n1_ n2_ n3_ n4_ n5_ n6_ n7_ n8_
        refine start_ (n := 16) (S := fun w' => w'.cell? ⟨gb159, 0, none⟩ = some (.int .i64 t165) ∧ w'.cell? ⟨gb159, 1, none⟩ = some (.int .i64 t166) ∧ w'.cell? ⟨gb159, 2, none⟩ = some (.int .i64 t167) ∧ w'.cell? ⟨gb159, 3, none⟩ = some (.int .i64 t168) ∧ w'.cell? ⟨gb159, 4, none⟩ = some (.slice Ao26 t169.length co26) ∧ w'.cell? ⟨gb160, 0, none⟩ = some (.int .i64 t172) ∧ w'.cell? ⟨gb160, 1, none⟩ = some (.int .i64 t173) ∧ w'.cell? ⟨gb160, 2, none⟩ = some (.int .i64 t174) ∧ w'.cell? ⟨gb160, 3, none⟩ = some (.slice Ao31 t175.length co31) ∧ w'.cell? ⟨gb163, 0, none⟩ = some (.int .i64 a4_0) ∧ w'.cell? ⟨gb163, 1, none⟩ = some (.int .i64 a4_1) ∧ w'.cell? ⟨gb163, 2, none⟩ = some (.int .i64 a4_2) ∧ w'.cell? ⟨gb163, 3, none⟩ = some (.int .i64 a4_3)) (ds := []) #[false, false, false, false, false, false, false, false, false, false, false, false, false, false, false, false] (by kernel_rfl) rfl rfl ⟨(blk_cell BK159.out 0).trans rfl, (blk_cell BK159.out 1).trans rfl, (blk_cell BK159.out 2).trans rfl, (blk_cell BK159.out 3).trans rfl, (blk_cell BK159.out 4).trans rfl, (blk_cell BK160.out 0).trans rfl, (blk_cell BK160.out 1).trans rfl, (blk_cell BK160.out 2).trans rfl, (blk_cell BK160.out 3).trans rfl, (blk_cell BK163.out 0).trans rfl, (blk_cell BK163.out 1).trans rfl, (blk_cell BK163.out 2).trans rfl, (blk_cell BK163.out 3).trans rfl⟩ (fun hHeld => ?_); refine with_tabW hortatorlaw7_RuleAll.tab9 hortatorlaw7_RuleAll.bits9 (fun HT_ HW_ => ?_)
        generalize w83.drew = w92 at HO_160004 HO_161003 HO_162003 BK159 BK160 BK161 BK162 BK163 HB hHeld ⊢
        refine take_ (i := 0) (N := some 54) (v := ?_) (a' := ?_) #[true, false, false, false, false, false, false, false, false, false, false, false, false, false, false, false] rfl rfl (take_ofW HT_.out HW_.out (by kernel_rfl)) (fun _ _ _ h => h) (Or.inl ⟨by rfl, ?_⟩) hHeld ?_ ?_
        rotate_left
        ·rintro w' ⟨s0, s1, s2, s3, s4, s5, s6, s7, s8, s9, s10, s11, s12⟩
         go_simp
         with_reducible rfl
        rotate_left
        ·simp only [Act.put, List.setIfInBounds_toArray, List.set_cons_zero, List.set_cons_succ, i64_w, i32_w]
         rfl
        refine take_ (i := 1) (N := some 55) (v := ?_) (a' := ?_) #[true, true, false, false, false, false, false, false, false, false, false, false, false, false, false, false] rfl rfl (take_ofW HT_.out HW_.out (by kernel_rfl)) (fun _ _ _ h => h) (Or.inl ⟨by rfl, ?_⟩) hHeld ?_ ?_
        rotate_left
        ·rintro w' ⟨s0, s1, s2, s3, s4, s5, s6, s7, s8, s9, s10, s11, s12⟩
         go_simp
         with_reducible rfl
        rotate_left
        ·simp only [Act.put, List.setIfInBounds_toArray, List.set_cons_zero, List.set_cons_succ, i64_w, i32_w]
         rfl
        refine take_ (i := 3) (N := some 57) (v := ?_) (a' := ?_) #[true, true, false, true, false, false, false, false, false, false, false, false, false, false, false, false] rfl rfl (take_ofW HT_.out HW_.out (by kernel_rfl)) (fun _ _ _ h => h) (Or.inl ⟨by rfl, ?_⟩) hHeld ?_ ?_
        rotate_left
        ·rintro w' ⟨s0, s1, s2, s3, s4, s5, s6, s7, s8, s9, s10, s11, s12⟩
         go_simp
         with_reducible rfl
        rotate_left
        ·simp only [Act.put, List.setIfInBounds_toArray, List.set_cons_zero, List.set_cons_succ, i64_w, i32_w]
         rfl
        refine take_ (i := 4) (N := some 58) (v := ?_) (a' := ?_) #[true, true, false, true, true, false, false, false, false, false, false, false, false, false, false, false] rfl rfl (take_ofW HT_.out HW_.out (by kernel_rfl)) (fun _ _ _ h => h) (Or.inl ⟨by rfl, ?_⟩) hHeld ?_ ?_
        rotate_left
        ·rintro w' ⟨s0, s1, s2, s3, s4, s5, s6, s7, s8, s9, s10, s11, s12⟩
         go_simp
         with_reducible rfl
        rotate_left
        ·simp only [Act.put, List.setIfInBounds_toArray, List.set_cons_zero, List.set_cons_succ, i64_w, i32_w]
         rfl
        refine one_ (i := 2) (N := some 56) #[true, true, true, true, true, false, false, false, false, false, false, false, false, false, false, false] rfl rfl (one_of HT_.out (by kernel_rfl)) (by decide) (fun K hK => ?_)
        refine goes_ Tryz.func22 (by kernel_rfl) rfl #[.agg #[.int .i64 t165, .int .i64 t166, .int .i64 t167, .int .i64 t168, .slice Ao26 t169.length co26], .agg #[.int .i64 t172, .int .i64 t173, .int .i64 t174, .slice Ao31 t175.length co31]] (by rfl) rfl rfl (by (try simp only [List.map_toArray, List.map_cons, List.map_nil]); (rfl)) ?_
        with_reducible refine (rule_Task.calls kj10 t165 t166 t167 t168 _ _ t169 t172 t173 t174 _ _ t175 t192 _ ?side1 ?side2 ?side3 ?side4 A84.out).mono ?_
        (case side1 => repeat ((exact (Kd.R_reads' HO_160004.out).2.2)))
        (case side2 => exact (Kd.R_reads' HO_160004.out).2.1)
        (case side3 => repeat ((exact (Kd.R_reads' HO_161003.out).2.2)))
        (case side4 => exact (Kd.R_reads' HO_161003.out).2.1)
        rintro e w93 ⟨rfl, hb⟩
        refine ⟨_, rfl, ?_⟩
        have n0_ := Aside0.mk (Kd.R_below (by exact HO_160004.out) hb)
        have n1_ := Aside0.mk (Kd.R_below (by exact HO_161003.out) hb)
        have n2_ := Aside0.mk (Kd.R_below (by exact HO_162003.out) hb)
        have n3_ := Aside0.mk (blk_below (g := gb159) (o := .cells #[.int .i64 t165, .int .i64 t166, .int .i64 t167, .int .i64 t168, .slice Ao26 t169.length co26] 24 (0, 0)) (by exact BK159.out) hb)
        have n4_ := Aside0.mk (blk_below (g := gb160) (o := .cells #[.int .i64 t172, .int .i64 t173, .int .i64 t174, .slice Ao31 t175.length co31] 27 (0, 0)) (by exact BK160.out) hb)
        have n5_ := Aside0.mk (blk_below (g := gb161) (o := .cells #[.int .i64 t178, .int .i64 t179, .int .i64 t180, .slice Ao36 t181.length co36] 27 (0, 0)) (by exact BK161.out) hb)
        have n6_ := Aside0.mk (blk_below (g := gb162) (o := .cells #[.int .i64 a3_0, .int .i64 a3_1, .int .i64 a3_2] 29 (0, 0)) (by exact BK162.out) hb)
        have n7_ := Aside0.mk (blk_below (g := gb163) (o := .cells #[.int .i64 a4_0, .int .i64 a4_1, .int .i64 a4_2, .int .i64 a4_3] 31 (0, 0)) (by exact BK163.out) hb)
        have n8_ := Aside0.mk (below_step (by repeat ((with_reducible (exact HB.out)))) hb)
        clear HO_160004
        clear HO_161003
        clear HO_162003
        clear BK159
        clear BK160
        clear BK161
        clear BK162
        clear BK163
        clear HB
        have HO_160004 := n0_
        have HO_161003 := n1_
        have HO_162003 := n2_
        have BK159 := n3_
        have BK160 := n4_
        have BK161 := n5_
        have BK162 := n6_
        have BK163 := n7_
        have HB := n8_
        clear n0_ n1_ n2_ n3_ n4_ n5_ n6_ n7_ n8_
        (try clear hb)
        (try clear hb2)
        (try clear hk)
        (try clear hi)
        refine hK.out _ _ ⟨(blk_cell BK159.out 0).trans rfl, (blk_cell BK159.out 1).trans rfl, (blk_cell BK159.out 2).trans rfl, (blk_cell BK159.out 3).trans rfl, (blk_cell BK159.out 4).trans rfl, (blk_cell BK160.out 0).trans rfl, (blk_cell BK160.out 1).trans rfl, (blk_cell BK160.out 2).trans rfl, (blk_cell BK160.out 3).trans rfl, (blk_cell BK163.out 0).trans rfl, (blk_cell BK163.out 1).trans rfl, (blk_cell BK163.out 2).trans rfl, (blk_cell BK163.out 3).trans rfl⟩ (fun hHeld => ?_)
        clear hK K
        refine norm_ (a' := ?_) ?_ ?_
        rotate_left
        ·show Act.put _ (some 56) _ = _
         simp only [Act.put, List.setIfInBounds_toArray, List.set_cons_zero, List.set_cons_succ, i64_w, i32_w]
         rfl
        refine one_ (i := 5) (N := some 59) #[true, true, true, true, true, true, false, false, false, false, false, false, false, false, false, false] rfl rfl (one_of HT_.out (by kernel_rfl)) (by decide) (fun K hK => ?_)
        refine goes_ Tryz.func23 (by kernel_rfl) rfl #[.agg #[.int .i64 t165, .int .i64 t166, .int .i64 t167, .int .i64 t168, .slice Ao26 t169.length co26], .agg #[.int .i64 t172, .int .i64 t173, .int .i64 t174, .slice Ao31 t175.length co31]] (by rfl) rfl rfl (by (try simp only [List.map_toArray, List.map_cons, List.map_nil]); (rfl)) ?_
        with_reducible refine (hortatorref7_Task.calls t165 t166 t167 t168 _ _ t169 t172 t173 t174 _ _ t175 t193 _ ?side1 ?side2 ?side3 ?side4 A85.out).mono ?_
        (case side1 => repeat ((exact (Kd.R_reads' HO_160004.out).2.2)))
        (case side2 => exact (Kd.R_reads' HO_160004.out).2.1)
        (case side3 => repeat ((exact (Kd.R_reads' HO_161003.out).2.2)))
        (case side4 => exact (Kd.R_reads' HO_161003.out).2.1)
        rintro e w94 ⟨rfl, hb⟩
        refine ⟨_, rfl, ?_⟩
        have n0_ := Aside0.mk (Kd.R_below (by exact HO_160004.out) hb)
        have n1_ := Aside0.mk (Kd.R_below (by exact HO_161003.out) hb)
        have n2_ := Aside0.mk (Kd.R_below (by exact HO_162003.out) hb)
        have n3_ := Aside0.mk (blk_below (g := gb159) (o := .cells #[.int .i64 t165, .int .i64 t166, .int .i64 t167, .int .i64 t168, .slice Ao26 t169.length co26] 24 (0, 0)) (by exact BK159.out) hb)
        have n4_ := Aside0.mk (blk_below (g := gb160) (o := .cells #[.int .i64 t172, .int .i64 t173, .int .i64 t174, .slice Ao31 t175.length co31] 27 (0, 0)) (by exact BK160.out) hb)
        have n5_ := Aside0.mk (blk_below (g := gb161) (o := .cells #[.int .i64 t178, .int .i64 t179, .int .i64 t180, .slice Ao36 t181.length co36] 27 (0, 0)) (by exact BK161.out) hb)
        have n6_ := Aside0.mk (blk_below (g := gb162) (o := .cells #[.int .i64 a3_0, .int .i64 a3_1, .int .i64 a3_2] 29 (0, 0)) (by exact BK162.out) hb)
        have n7_ := Aside0.mk (blk_below (g := gb163) (o := .cells #[.int .i64 a4_0, .int .i64 a4_1, .int .i64 a4_2, .int .i64 a4_3] 31 (0, 0)) (by exact BK163.out) hb)
        have n8_ := Aside0.mk (below_step (by repeat ((with_reducible (exact HB.out)))) hb)
        clear HO_160004
        clear HO_161003
        clear HO_162003
        clear BK159
        clear BK160
        clear BK161
        clear BK162
        clear BK163
        clear HB
        have HO_160004 := n0_
        have HO_161003 := n1_
        have HO_162003 := n2_
        have BK159 := n3_
        have BK160 := n4_
        have BK161 := n5_
        have BK162 := n6_
        have BK163 := n7_
        have HB := n8_
        clear n0_ n1_ n2_ n3_ n4_ n5_ n6_ n7_ n8_
        (try clear hb)
        (try clear hb2)
        (try clear hk)
        (try clear hi)
        refine hK.out _ _ ⟨(blk_cell BK159.out 0).trans rfl, (blk_cell BK159.out 1).trans rfl, (blk_cell BK159.out 2).trans rfl, (blk_cell BK159.out 3).trans rfl, (blk_cell BK159.out 4).trans rfl, (blk_cell BK160.out 0).trans rfl, (blk_cell BK160.out 1).trans rfl, (blk_cell BK160.out 2).trans rfl, (blk_cell BK160.out 3).trans rfl, (blk_cell BK163.out 0).trans rfl, (blk_cell BK163.out 1).trans rfl, (blk_cell BK163.out 2).trans rfl, (blk_cell BK163.out 3).trans rfl⟩ (fun hHeld => ?_)
        clear hK K
        refine norm_ (a' := ?_) ?_ ?_
        rotate_left
        ·show Act.put _ (some 59) _ = _
         simp only [Act.put, List.setIfInBounds_toArray, List.set_cons_zero, List.set_cons_succ, i64_w, i32_w]
         rfl
        refine pure_ (i := 6) (N := some 60) (v := ?_) (a' := ?_) #[true, true, true, true, true, true, true, false, false, false, false, false, false, false, false, false] rfl rfl (any_of HT_.out (by kernel_rfl)) (fun _ _ _ h => h) (Or.inl ⟨by rfl, ?_⟩) ?_ ?_
        rotate_left
        ·intro w'
         go_simp
         with_reducible rfl
        rotate_left
        ·simp only [Act.put, List.setIfInBounds_toArray, List.set_cons_zero, List.set_cons_succ, i64_w, i32_w]
         rfl
        refine pure_ (i := 7) (N := some 61) (v := ?_) (a' := ?_) #[true, true, true, true, true, true, true, true, false, false, false, false, false, false, false, false] rfl rfl (any_of HT_.out (by kernel_rfl)) (fun _ _ _ h => h) (Or.inl ⟨by rfl, ?_⟩) ?_ ?_
        rotate_left
        ·intro w'
         go_simp
         with_reducible rfl
        rotate_left
        ·simp only [Act.put, List.setIfInBounds_toArray, List.set_cons_zero, List.set_cons_succ, i64_w, i32_w]
         rfl
        refine take_ (i := 8) (N := some 62) (v := ?_) (a' := ?_) #[true, true, true, true, true, true, true, true, true, false, false, false, false, false, false, false] rfl rfl (take_ofW HT_.out HW_.out (by kernel_rfl)) (fun _ _ _ h => h) (Or.inl ⟨by rfl, ?_⟩) hHeld ?_ ?_
        rotate_left
        ·rintro w' ⟨s0, s1, s2, s3, s4, s5, s6, s7, s8, s9, s10, s11, s12⟩
         go_simp
         with_reducible rfl
        rotate_left
        ·simp only [Act.put, List.setIfInBounds_toArray, List.set_cons_zero, List.set_cons_succ, i64_w, i32_w]
         rfl
        refine take_ (i := 9) (N := some 63) (v := ?_) (a' := ?_) #[true, true, true, true, true, true, true, true, true, true, false, false, false, false, false, false] rfl rfl (take_ofW HT_.out HW_.out (by kernel_rfl)) (fun _ _ _ h => h) (Or.inl ⟨by rfl, ?_⟩) hHeld ?_ ?_
        rotate_left
        ·rintro w' ⟨s0, s1, s2, s3, s4, s5, s6, s7, s8, s9, s10, s11, s12⟩
         go_simp
         with_reducible rfl
        rotate_left
        ·simp only [Act.put, List.setIfInBounds_toArray, List.set_cons_zero, List.set_cons_succ, i64_w, i32_w]
         rfl
        refine take_ (i := 11) (N := some 65) (v := ?_) (a' := ?_) #[true, true, true, true, true, true, true, true, true, true, false, true, false, false, false, false] rfl rfl (take_ofW HT_.out HW_.out (by kernel_rfl)) (fun _ _ _ h => h) (Or.inl ⟨by rfl, ?_⟩) hHeld ?_ ?_
        rotate_left
        ·rintro w' ⟨s0, s1, s2, s3, s4, s5, s6, s7, s8, s9, s10, s11, s12⟩
         go_simp
         with_reducible rfl
        rotate_left
        ·simp only [Act.put, List.setIfInBounds_toArray, List.set_cons_zero, List.set_cons_succ, i64_w, i32_w]
         rfl
        refine take_ (i := 12) (N := some 66) (v := ?_) (a' := ?_) #[true, true, true, true, true, true, true, true, true, true, false, true, true, false, false, false] rfl rfl (take_ofW HT_.out HW_.out (by kernel_rfl)) (fun _ _ _ h => h) (Or.inl ⟨by rfl, ?_⟩) hHeld ?_ ?_
        rotate_left
        ·rintro w' ⟨s0, s1, s2, s3, s4, s5, s6, s7, s8, s9, s10, s11, s12⟩
         go_simp
         with_reducible rfl
        rotate_left
        ·simp only [Act.put, List.setIfInBounds_toArray, List.set_cons_zero, List.set_cons_succ, i64_w, i32_w]
         rfl
        refine one_ (i := 10) (N := some 64) #[true, true, true, true, true, true, true, true, true, true, true, true, true, false, false, false] rfl rfl (one_of HT_.out (by kernel_rfl)) (by decide) (fun K hK => ?_)
        refine goes_ Tryz.func24 (by kernel_rfl) rfl #[.agg #[.int .i64 t165, .int .i64 t166, .int .i64 t167, .int .i64 t168, .slice Ao26 t169.length co26], .agg #[.int .i64 a4_0, .int .i64 a4_1, .int .i64 a4_2, .int .i64 a4_3]] (by rfl) rfl rfl (by (try simp only [List.map_toArray, List.map_cons, List.map_nil]); (rfl)) ?_
        with_reducible refine (rule_Piece.calls t165 t166 t167 t168 _ _ t169 a4_0 a4_1 a4_2 a4_3 t194 _ ?side1 ?side2 A90.out).mono ?_
        (case side1 => repeat ((exact (Kd.R_reads' HO_160004.out).2.2)))
        (case side2 => exact (Kd.R_reads' HO_160004.out).2.1)
        rintro e w95 ⟨rfl, hb⟩
        refine ⟨_, rfl, ?_⟩
        have n0_ := Aside0.mk (Kd.R_below (by exact HO_160004.out) hb)
        have n1_ := Aside0.mk (Kd.R_below (by exact HO_161003.out) hb)
        have n2_ := Aside0.mk (Kd.R_below (by exact HO_162003.out) hb)
        have n3_ := Aside0.mk (blk_below (g := gb159) (o := .cells #[.int .i64 t165, .int .i64 t166, .int .i64 t167, .int .i64 t168, .slice Ao26 t169.length co26] 24 (0, 0)) (by exact BK159.out) hb)
        have n4_ := Aside0.mk (blk_below (g := gb160) (o := .cells #[.int .i64 t172, .int .i64 t173, .int .i64 t174, .slice Ao31 t175.length co31] 27 (0, 0)) (by exact BK160.out) hb)
        have n5_ := Aside0.mk (blk_below (g := gb161) (o := .cells #[.int .i64 t178, .int .i64 t179, .int .i64 t180, .slice Ao36 t181.length co36] 27 (0, 0)) (by exact BK161.out) hb)
        have n6_ := Aside0.mk (blk_below (g := gb162) (o := .cells #[.int .i64 a3_0, .int .i64 a3_1, .int .i64 a3_2] 29 (0, 0)) (by exact BK162.out) hb)
        have n7_ := Aside0.mk (blk_below (g := gb163) (o := .cells #[.int .i64 a4_0, .int .i64 a4_1, .int .i64 a4_2, .int .i64 a4_3] 31 (0, 0)) (by exact BK163.out) hb)
        have n8_ := Aside0.mk (below_step (by repeat ((with_reducible (exact HB.out)))) hb)
        clear HO_160004
        clear HO_161003
        clear HO_162003
        clear BK159
        clear BK160
        clear BK161
        clear BK162
        clear BK163
        clear HB
        have HO_160004 := n0_
        have HO_161003 := n1_
        have HO_162003 := n2_
        have BK159 := n3_
        have BK160 := n4_
        have BK161 := n5_
        have BK162 := n6_
        have BK163 := n7_
        have HB := n8_
        clear n0_ n1_ n2_ n3_ n4_ n5_ n6_ n7_ n8_
        (try clear hb)
        (try clear hb2)
        (try clear hk)
        (try clear hi)
        refine hK.out _ _ ⟨(blk_cell BK159.out 0).trans rfl, (blk_cell BK159.out 1).trans rfl, (blk_cell BK159.out 2).trans rfl, (blk_cell BK159.out 3).trans rfl, (blk_cell BK159.out 4).trans rfl, (blk_cell BK160.out 0).trans rfl, (blk_cell BK160.out 1).trans rfl, (blk_cell BK160.out 2).trans rfl, (blk_cell BK160.out 3).trans rfl, (blk_cell BK163.out 0).trans rfl, (blk_cell BK163.out 1).trans rfl, (blk_cell BK163.out 2).trans rfl, (blk_cell BK163.out 3).trans rfl⟩ (fun hHeld => ?_)
        clear hK K
        refine norm_ (a' := ?_) ?_ ?_
        rotate_left
        ·show Act.put _ (some 64) _ = _
         simp only [Act.put, List.setIfInBounds_toArray, List.set_cons_zero, List.set_cons_succ, i64_w, i32_w]
         rfl
        refine one_ (i := 13) (N := some 67) #[true, true, true, true, true, true, true, true, true, true, true, true, true, true, false, false] rfl rfl (one_of HT_.out (by kernel_rfl)) (by decide) (fun K hK => ?_)
        refine goes_ Tryz.func25 (by kernel_rfl) rfl #[.agg #[.int .i64 t165, .int .i64 t166, .int .i64 t167, .int .i64 t168, .slice Ao26 t169.length co26], .agg #[.int .i64 a4_0, .int .i64 a4_1, .int .i64 a4_2, .int .i64 a4_3]] (by rfl) rfl rfl (by (try simp only [List.map_toArray, List.map_cons, List.map_nil]); (rfl)) ?_
        with_reducible refine (hortatorref7_Piece.calls t165 t166 t167 t168 _ _ t169 a4_0 a4_1 a4_2 a4_3 t195 _ ?side1 ?side2 A91.out).mono ?_
        (case side1 => repeat ((exact (Kd.R_reads' HO_160004.out).2.2)))
        (case side2 => exact (Kd.R_reads' HO_160004.out).2.1)
        rintro e w96 ⟨rfl, hb⟩
        refine ⟨_, rfl, ?_⟩
        have n0_ := Aside0.mk (Kd.R_below (by exact HO_160004.out) hb)
        have n1_ := Aside0.mk (Kd.R_below (by exact HO_161003.out) hb)
        have n2_ := Aside0.mk (Kd.R_below (by exact HO_162003.out) hb)
        have n3_ := Aside0.mk (blk_below (g := gb159) (o := .cells #[.int .i64 t165, .int .i64 t166, .int .i64 t167, .int .i64 t168, .slice Ao26 t169.length co26] 24 (0, 0)) (by exact BK159.out) hb)
        have n4_ := Aside0.mk (blk_below (g := gb160) (o := .cells #[.int .i64 t172, .int .i64 t173, .int .i64 t174, .slice Ao31 t175.length co31] 27 (0, 0)) (by exact BK160.out) hb)
        have n5_ := Aside0.mk (blk_below (g := gb161) (o := .cells #[.int .i64 t178, .int .i64 t179, .int .i64 t180, .slice Ao36 t181.length co36] 27 (0, 0)) (by exact BK161.out) hb)
        have n6_ := Aside0.mk (blk_below (g := gb162) (o := .cells #[.int .i64 a3_0, .int .i64 a3_1, .int .i64 a3_2] 29 (0, 0)) (by exact BK162.out) hb)
        have n7_ := Aside0.mk (blk_below (g := gb163) (o := .cells #[.int .i64 a4_0, .int .i64 a4_1, .int .i64 a4_2, .int .i64 a4_3] 31 (0, 0)) (by exact BK163.out) hb)
        have n8_ := Aside0.mk (below_step (by repeat ((with_reducible (exact HB.out)))) hb)
        clear HO_160004
        clear HO_161003
        clear HO_162003
        clear BK159
        clear BK160
        clear BK161
        clear BK162
        clear BK163
        clear HB
        have HO_160004 := n0_
        have HO_161003 := n1_
        have HO_162003 := n2_
        have BK159 := n3_
        have BK160 := n4_
        have BK161 := n5_
        have BK162 := n6_
        have BK163 := n7_
        have HB := n8_
        clear n0_ n1_ n2_ n3_ n4_ n5_ n6_ n7_ n8_
        (try clear hb)
        (try clear hb2)
        (try clear hk)
        (try clear hi)
        refine hK.out _ _ ⟨(blk_cell BK159.out 0).trans rfl, (blk_cell BK159.out 1).trans rfl, (blk_cell BK159.out 2).trans rfl, (blk_cell BK159.out 3).trans rfl, (blk_cell BK159.out 4).trans rfl, (blk_cell BK160.out 0).trans rfl, (blk_cell BK160.out 1).trans rfl, (blk_cell BK160.out 2).trans rfl, (blk_cell BK160.out 3).trans rfl, (blk_cell BK163.out 0).trans rfl, (blk_cell BK163.out 1).trans rfl, (blk_cell BK163.out 2).trans rfl, (blk_cell BK163.out 3).trans rfl⟩ (fun hHeld => ?_)
        clear hK K
        refine norm_ (a' := ?_) ?_ ?_
        rotate_left
        ·show Act.put _ (some 67) _ = _
         simp only [Act.put, List.setIfInBounds_toArray, List.set_cons_zero, List.set_cons_succ, i64_w, i32_w]
         rfl
        refine pure_ (i := 14) (N := some 68) (v := ?_) (a' := ?_) #[true, true, true, true, true, true, true, true, true, true, true, true, true, true, true, false] rfl rfl (any_of HT_.out (by kernel_rfl)) (fun _ _ _ h => h) (Or.inl ⟨by rfl, ?_⟩) ?_ ?_
        rotate_left
        ·intro w'
         go_simp
         with_reducible rfl
        rotate_left
        ·simp only [Act.put, List.setIfInBounds_toArray, List.set_cons_zero, List.set_cons_succ, i64_w, i32_w]
         rfl
        refine pure_ (i := 15) (N := some 69) (v := ?_) (a' := ?_) #[true, true, true, true, true, true, true, true, true, true, true, true, true, true, true, true] rfl rfl (any_of HT_.out (by kernel_rfl)) (fun _ _ _ h => h) (Or.inl ⟨by rfl, ?_⟩) ?_ ?_
        rotate_left
        ·intro w'
         go_simp
         with_reducible rfl
        rotate_left
        ·simp only [Act.put, List.setIfInBounds_toArray, List.set_cons_zero, List.set_cons_succ, i64_w, i32_w]
         rfl
        refine done_ (done_of HT_.out (by kernel_rfl)) ?_
        try go_wp2
        go_meet
        case rel => exact ⟨_, ((t194 != t195)), (by (rfl)), H', ⟨by have := HJ10.out; (omega)⟩, ⟨by exact HO_160004.out⟩, ⟨by exact HO_161003.out⟩, ⟨by exact HO_162003.out⟩, ⟨by exact BK159.out⟩, ⟨by exact BK160.out⟩, ⟨by exact BK161.out⟩, ⟨by exact BK162.out⟩, ⟨by exact BK163.out⟩, ⟨by repeat ((with_reducible (exact HB.out)))⟩⟩
      case rest =>
       clear HC77
       try clear hcz82_0
       try clear hcz82_1
       try clear hcz82_2
       try clear hcz82_3
       try clear hcz82_4
       try clear hfz82_0
       try clear hfz82_1
       try clear hfz82_2
       try clear hfz82_3
       try clear hfz82_4
       obtain ⟨kq, x69_76, rfl, HA, HJ76, HO_160004, HO_161003, HO_162003, BK159, BK160, BK161, BK162, BK163, HB⟩ := hcut
       cases kq with
       | zero => exact absurd HA.out (by simp [hortatorlaw7_RuleAll.j1])
       | succ kj76 =>
        have H := HA.out
        clear HA
        simp only [hortatorlaw7_RuleAll.j1] at H
        by_cases c97 : x69_76 = true
        ·subst c97
         have H1 : (none) = some r := by rw [if_pos rfl] at H; exact H
         clear H
         have H := H1
         clear H1
         exact absurd H (by simp)
        ·replace c97 := Bool.eq_false_iff.mpr c97
         subst c97
         have H1 : ((rule_Agents.f kj76 t165 t166 t167 t168 t169 t172 t173 t174 t175).bind fun t196 => ((hortatorref7_Task.f t165 t166 t167 t168 t169 t172 t173 t174 t175).bind fun t199 => (if t199 = true then ((hortatorref7_Agents.f kj76 t165 t166 t167 t168 t169 t172 t173 t174 t175).bind fun t200 => (hortatorlaw7_RuleAll.l0 kj76 t196 t200 0)) else (some ((t196.length : Int) == 0))))) = some r := by rw [if_neg (show ¬ (false = true) by decide)] at H; exact H
         clear H
         have H := H1
         clear H1
         replace H := Option.bind_eq_some_iff.mp H
         obtain ⟨t196, A980, H⟩ := H
         have A98 := Aside0.mk A980
         clear A980
         replace H := Option.bind_eq_some_iff.mp H
         obtain ⟨t199, A990, H⟩ := H
         have A99 := Aside0.mk A990
         clear A990
         by_cases c100 : t199 = true
         ·subst c100
          have H1 : ((hortatorref7_Agents.f kj76 t165 t166 t167 t168 t169 t172 t173 t174 t175).bind fun t200 => (hortatorlaw7_RuleAll.l0 kj76 t196 t200 0)) = some r := by rw [if_pos rfl] at H; exact H
          clear H
          have H := H1
          clear H1
          replace H := Option.bind_eq_some_iff.mp H
          obtain ⟨t200, A1010, H⟩ := H
          have A101 := Aside0.mk A1010
          clear A1010
          have H' := Aside0.mk H
          clear H
          have hnb102 := NB159_160.out
          have hnc102 := NB160_159.out
          have hnb103 := NB159_161.out
          have hnc103 := NB161_159.out
          have hnb104 := NB159_162.out
          have hnc104 := NB162_159.out
          have hnb105 := NB159_163.out
          have hnc105 := NB163_159.out
          have hcz106_0 : wc.cell? ⟨gb159, 0, none⟩ = some (.int .i64 t165) := (blk_cell BK159.out 0).trans rfl
          have hcz106_1 : wc.cell? ⟨gb159, 1, none⟩ = some (.int .i64 t166) := (blk_cell BK159.out 1).trans rfl
          have hcz106_2 : wc.cell? ⟨gb159, 2, none⟩ = some (.int .i64 t167) := (blk_cell BK159.out 2).trans rfl
          have hcz106_3 : wc.cell? ⟨gb159, 3, none⟩ = some (.int .i64 t168) := (blk_cell BK159.out 3).trans rfl
          have hcz106_4 : wc.cell? ⟨gb159, 4, none⟩ = some (.slice Ao26 t169.length co26) := (blk_cell BK159.out 4).trans rfl
          have hfz106_0 := blk_frozen BK159.out 0
          have hfz106_1 := blk_frozen BK159.out 1
          have hfz106_2 := blk_frozen BK159.out 2
          have hfz106_3 := blk_frozen BK159.out 3
          have hfz106_4 := blk_frozen BK159.out 4
          have hnb107 := NB160_161.out
          have hnc107 := NB161_160.out
          have hnb108 := NB160_162.out
          have hnc108 := NB162_160.out
          have hnb109 := NB160_163.out
          have hnc109 := NB163_160.out
          have hcz110_0 : wc.cell? ⟨gb160, 0, none⟩ = some (.int .i64 t172) := (blk_cell BK160.out 0).trans rfl
          have hcz110_1 : wc.cell? ⟨gb160, 1, none⟩ = some (.int .i64 t173) := (blk_cell BK160.out 1).trans rfl
          have hcz110_2 : wc.cell? ⟨gb160, 2, none⟩ = some (.int .i64 t174) := (blk_cell BK160.out 2).trans rfl
          have hcz110_3 : wc.cell? ⟨gb160, 3, none⟩ = some (.slice Ao31 t175.length co31) := (blk_cell BK160.out 3).trans rfl
          have hfz110_0 := blk_frozen BK160.out 0
          have hfz110_1 := blk_frozen BK160.out 1
          have hfz110_2 := blk_frozen BK160.out 2
          have hfz110_3 := blk_frozen BK160.out 3
          go_wp2_with (first | ((with_reducible refine gate_callee (f := 26) rfl ?_); refine goesL_ (some 72) rfl rfl Tryz.func26 (by kernel_rfl) rfl #[.agg #[.int .i64 t165, .int .i64 t166, .int .i64 t167, .int .i64 t168, .slice Ao26 t169.length co26], .agg #[.int .i64 t172, .int .i64 t173, .int .i64 t174, .slice Ao31 t175.length co31]] rfl (by (try simp only [List.map_toArray, List.map_cons, List.map_nil]); (rfl)) ?_; (with_reducible refine (rule_Agents.calls kj76 t165 t166 t167 t168 _ _ t169 t172 t173 t174 _ _ t175 t196 _ ?side1 ?side2 ?side3 ?side4 A98.out).mono ?_); (case side1 => repeat ((exact (Kd.R_reads' HO_160004.out).2.2))); (case side2 => exact (Kd.R_reads' HO_160004.out).2.1); (case side3 => repeat ((exact (Kd.R_reads' HO_161003.out).2.2))); (case side4 => exact (Kd.R_reads' HO_161003.out).2.1); rintro e w111 ⟨v197, rfl, ho0, hb⟩; refine ⟨_, rfl, ?_⟩; have n0_ := Aside0.mk (Kd.R_elder' (by exact HO_160004.out) (Kd.R_base ho0) hb); have n1_ := Aside0.mk (Kd.R_below (by exact HO_161003.out) hb); have n2_ := Aside0.mk (Kd.R_below (by exact HO_162003.out) hb); have n3_ := Aside0.mk (Kd.R_lower (Kd.R_new' ho0 (Kd.R_lt (by exact HO_160004.out))) (below_size (by repeat ((with_reducible (exact HB.out)))))); have n4_ := Aside0.mk (blk_below (g := gb159) (o := .cells #[.int .i64 t165, .int .i64 t166, .int .i64 t167, .int .i64 t168, .slice Ao26 t169.length co26] 24 (0, 0)) (by exact BK159.out) hb); have n5_ := Aside0.mk (blk_below (g := gb160) (o := .cells #[.int .i64 t172, .int .i64 t173, .int .i64 t174, .slice Ao31 t175.length co31] 27 (0, 0)) (by exact BK160.out) hb); have n6_ := Aside0.mk (blk_below (g := gb161) (o := .cells #[.int .i64 t178, .int .i64 t179, .int .i64 t180, .slice Ao36 t181.length co36] 27 (0, 0)) (by exact BK161.out) hb); have n7_ := Aside0.mk (blk_below (g := gb162) (o := .cells #[.int .i64 a3_0, .int .i64 a3_1, .int .i64 a3_2] 29 (0, 0)) (by exact BK162.out) hb); have n8_ := Aside0.mk (blk_below (g := gb163) (o := .cells #[.int .i64 a4_0, .int .i64 a4_1, .int .i64 a4_2, .int .i64 a4_3] 31 (0, 0)) (by exact BK163.out) hb); have n9_ := Aside0.mk (below_step (by repeat ((with_reducible (exact HB.out)))) hb); clear HO_160004; clear HO_161003; clear HO_162003; clear BK159; clear BK160; clear BK161; clear BK162; clear BK163; clear HB; have HO_160004 := n0_; have HO_161003 := n1_; have HO_162003 := n2_; have HO198 := n3_; have BK159 := n4_; have BK160 := n5_; have BK161 := n6_; have BK162 := n7_; have BK163 := n8_; have HB := n9_; clear n0_ n1_ n2_ n3_ n4_ n5_ n6_ n7_ n8_ n9_; (try clear hb); (try clear hb2); (try clear hk); (try clear hi); (try clear ho0); have hcz112_0 : w111.cell? ⟨gb159, 0, none⟩ = some (.int .i64 t165) := (blk_cell BK159.out 0).trans rfl; have hcz112_1 : w111.cell? ⟨gb159, 1, none⟩ = some (.int .i64 t166) := (blk_cell BK159.out 1).trans rfl; have hcz112_2 : w111.cell? ⟨gb159, 2, none⟩ = some (.int .i64 t167) := (blk_cell BK159.out 2).trans rfl; have hcz112_3 : w111.cell? ⟨gb159, 3, none⟩ = some (.int .i64 t168) := (blk_cell BK159.out 3).trans rfl; have hcz112_4 : w111.cell? ⟨gb159, 4, none⟩ = some (.slice Ao26 t169.length co26) := (blk_cell BK159.out 4).trans rfl; have hfz112_0 := blk_frozen BK159.out 0; have hfz112_1 := blk_frozen BK159.out 1; have hfz112_2 := blk_frozen BK159.out 2; have hfz112_3 := blk_frozen BK159.out 3; have hfz112_4 := blk_frozen BK159.out 4; have hcz113_0 : w111.cell? ⟨gb160, 0, none⟩ = some (.int .i64 t172) := (blk_cell BK160.out 0).trans rfl; have hcz113_1 : w111.cell? ⟨gb160, 1, none⟩ = some (.int .i64 t173) := (blk_cell BK160.out 1).trans rfl; have hcz113_2 : w111.cell? ⟨gb160, 2, none⟩ = some (.int .i64 t174) := (blk_cell BK160.out 2).trans rfl; have hcz113_3 : w111.cell? ⟨gb160, 3, none⟩ = some (.slice Ao31 t175.length co31) := (blk_cell BK160.out 3).trans rfl; have hfz113_0 := blk_frozen BK160.out 0; have hfz113_1 := blk_frozen BK160.out 1; have hfz113_2 := blk_frozen BK160.out 2; have hfz113_3 := blk_frozen BK160.out 3) | ((with_reducible refine gate_callee (f := 23) rfl ?_); refine goesL_ (some 75) rfl rfl Tryz.func23 (by kernel_rfl) rfl #[.agg #[.int .i64 t165, .int .i64 t166, .int .i64 t167, .int .i64 t168, .slice Ao26 t169.length co26], .agg #[.int .i64 t172, .int .i64 t173, .int .i64 t174, .slice Ao31 t175.length co31]] rfl (by (try simp only [List.map_toArray, List.map_cons, List.map_nil]); (rfl)) ?_; (with_reducible refine (hortatorref7_Task.calls t165 t166 t167 t168 _ _ t169 t172 t173 t174 _ _ t175 true _ ?side1 ?side2 ?side3 ?side4 A99.out).mono ?_); (case side1 => repeat ((exact (Kd.R_reads' HO_160004.out).2.2))); (case side2 => exact (Kd.R_reads' HO_160004.out).2.1); (case side3 => repeat ((exact (Kd.R_reads' HO_161003.out).2.2))); (case side4 => exact (Kd.R_reads' HO_161003.out).2.1); rintro e w114 ⟨rfl, hb⟩; refine ⟨_, rfl, ?_⟩; have n0_ := Aside0.mk (Kd.R_below (by exact HO_160004.out) hb); have n1_ := Aside0.mk (Kd.R_below (by exact HO_161003.out) hb); have n2_ := Aside0.mk (Kd.R_below (by exact HO_162003.out) hb); have n3_ := Aside0.mk (Kd.R_below (by exact HO198.out) hb); have n4_ := Aside0.mk (blk_below (g := gb159) (o := .cells #[.int .i64 t165, .int .i64 t166, .int .i64 t167, .int .i64 t168, .slice Ao26 t169.length co26] 24 (0, 0)) (by exact BK159.out) hb); have n5_ := Aside0.mk (blk_below (g := gb160) (o := .cells #[.int .i64 t172, .int .i64 t173, .int .i64 t174, .slice Ao31 t175.length co31] 27 (0, 0)) (by exact BK160.out) hb); have n6_ := Aside0.mk (blk_below (g := gb161) (o := .cells #[.int .i64 t178, .int .i64 t179, .int .i64 t180, .slice Ao36 t181.length co36] 27 (0, 0)) (by exact BK161.out) hb); have n7_ := Aside0.mk (blk_below (g := gb162) (o := .cells #[.int .i64 a3_0, .int .i64 a3_1, .int .i64 a3_2] 29 (0, 0)) (by exact BK162.out) hb); have n8_ := Aside0.mk (blk_below (g := gb163) (o := .cells #[.int .i64 a4_0, .int .i64 a4_1, .int .i64 a4_2, .int .i64 a4_3] 31 (0, 0)) (by exact BK163.out) hb); have n9_ := Aside0.mk (below_step (by repeat ((with_reducible (exact HB.out)))) hb); clear HO_160004; clear HO_161003; clear HO_162003; clear HO198; clear BK159; clear BK160; clear BK161; clear BK162; clear BK163; clear HB; have HO_160004 := n0_; have HO_161003 := n1_; have HO_162003 := n2_; have HO198 := n3_; have BK159 := n4_; have BK160 := n5_; have BK161 := n6_; have BK162 := n7_; have BK163 := n8_; have HB := n9_; clear n0_ n1_ n2_ n3_ n4_ n5_ n6_ n7_ n8_ n9_; (try clear hb); (try clear hb2); (try clear hk); (try clear hi); have hcz115_0 : w114.cell? ⟨gb159, 0, none⟩ = some (.int .i64 t165) := (blk_cell BK159.out 0).trans rfl; have hcz115_1 : w114.cell? ⟨gb159, 1, none⟩ = some (.int .i64 t166) := (blk_cell BK159.out 1).trans rfl; have hcz115_2 : w114.cell? ⟨gb159, 2, none⟩ = some (.int .i64 t167) := (blk_cell BK159.out 2).trans rfl; have hcz115_3 : w114.cell? ⟨gb159, 3, none⟩ = some (.int .i64 t168) := (blk_cell BK159.out 3).trans rfl; have hcz115_4 : w114.cell? ⟨gb159, 4, none⟩ = some (.slice Ao26 t169.length co26) := (blk_cell BK159.out 4).trans rfl; have hfz115_0 := blk_frozen BK159.out 0; have hfz115_1 := blk_frozen BK159.out 1; have hfz115_2 := blk_frozen BK159.out 2; have hfz115_3 := blk_frozen BK159.out 3; have hfz115_4 := blk_frozen BK159.out 4; have hcz116_0 : w114.cell? ⟨gb160, 0, none⟩ = some (.int .i64 t172) := (blk_cell BK160.out 0).trans rfl; have hcz116_1 : w114.cell? ⟨gb160, 1, none⟩ = some (.int .i64 t173) := (blk_cell BK160.out 1).trans rfl; have hcz116_2 : w114.cell? ⟨gb160, 2, none⟩ = some (.int .i64 t174) := (blk_cell BK160.out 2).trans rfl; have hcz116_3 : w114.cell? ⟨gb160, 3, none⟩ = some (.slice Ao31 t175.length co31) := (blk_cell BK160.out 3).trans rfl; have hfz116_0 := blk_frozen BK160.out 0; have hfz116_1 := blk_frozen BK160.out 1; have hfz116_2 := blk_frozen BK160.out 2; have hfz116_3 := blk_frozen BK160.out 3) | ((with_reducible refine gate_callee (f := 27) rfl ?_); refine goesL_ (some 82) rfl rfl Tryz.func27 (by kernel_rfl) rfl #[.agg #[.int .i64 t165, .int .i64 t166, .int .i64 t167, .int .i64 t168, .slice Ao26 t169.length co26], .agg #[.int .i64 t172, .int .i64 t173, .int .i64 t174, .slice Ao31 t175.length co31]] rfl (by (try simp only [List.map_toArray, List.map_cons, List.map_nil]); (rfl)) ?_; (with_reducible refine (hortatorref7_Agents.calls kj76 t165 t166 t167 t168 _ _ t169 t172 t173 t174 _ _ t175 t200 _ ?side1 ?side2 ?side3 ?side4 A101.out).mono ?_); (case side1 => repeat ((exact (Kd.R_reads' HO_160004.out).2.2))); (case side2 => exact (Kd.R_reads' HO_160004.out).2.1); (case side3 => repeat ((exact (Kd.R_reads' HO_161003.out).2.2))); (case side4 => exact (Kd.R_reads' HO_161003.out).2.1); rintro e w117 ⟨v201, rfl, ho0, hb⟩; refine ⟨_, rfl, ?_⟩; have n0_ := Aside0.mk (Kd.R_elder' (by exact HO_160004.out) (Kd.R_base ho0) hb); have n1_ := Aside0.mk (Kd.R_below (by exact HO_161003.out) hb); have n2_ := Aside0.mk (Kd.R_below (by exact HO_162003.out) hb); have n3_ := Aside0.mk (Kd.R_elder' (by exact HO198.out) (Kd.R_base ho0) hb); have n4_ := Aside0.mk (Kd.R_lower (Kd.R_new' (Kd.R_new' ho0 (Kd.R_lt (by exact HO_160004.out))) (Kd.R_lt (by exact HO198.out))) (below_size (by repeat ((with_reducible (exact HB.out)))))); have n5_ := Aside0.mk (blk_below (g := gb159) (o := .cells #[.int .i64 t165, .int .i64 t166, .int .i64 t167, .int .i64 t168, .slice Ao26 t169.length co26] 24 (0, 0)) (by exact BK159.out) hb); have n6_ := Aside0.mk (blk_below (g := gb160) (o := .cells #[.int .i64 t172, .int .i64 t173, .int .i64 t174, .slice Ao31 t175.length co31] 27 (0, 0)) (by exact BK160.out) hb); have n7_ := Aside0.mk (blk_below (g := gb161) (o := .cells #[.int .i64 t178, .int .i64 t179, .int .i64 t180, .slice Ao36 t181.length co36] 27 (0, 0)) (by exact BK161.out) hb); have n8_ := Aside0.mk (blk_below (g := gb162) (o := .cells #[.int .i64 a3_0, .int .i64 a3_1, .int .i64 a3_2] 29 (0, 0)) (by exact BK162.out) hb); have n9_ := Aside0.mk (blk_below (g := gb163) (o := .cells #[.int .i64 a4_0, .int .i64 a4_1, .int .i64 a4_2, .int .i64 a4_3] 31 (0, 0)) (by exact BK163.out) hb); have n10_ := Aside0.mk (below_step (by repeat ((with_reducible (exact HB.out)))) hb); clear HO_160004; clear HO_161003; clear HO_162003; clear HO198; clear BK159; clear BK160; clear BK161; clear BK162; clear BK163; clear HB; have HO_160004 := n0_; have HO_161003 := n1_; have HO_162003 := n2_; have HO198 := n3_; have HO202 := n4_; have BK159 := n5_; have BK160 := n6_; have BK161 := n7_; have BK162 := n8_; have BK163 := n9_; have HB := n10_; clear n0_ n1_ n2_ n3_ n4_ n5_ n6_ n7_ n8_ n9_ n10_; (try clear hb); (try clear hb2); (try clear hk); (try clear hi); (try clear ho0)))
          go_loopg [14] kj76 (fun kq v14 w' => ∃ (x14_3 : Int), v14 = .int .i64 x14_3 ∧ Aside0 (hortatorlaw7_RuleAll.l0 kq t196 t200 x14_3 = some r) ∧ Aside0 (kq ≤ kj76) ∧ Aside0 (Kd.R (Kd.int .i64) 3 w' w.heap.size (fun k_ => some k_ ≠ (v201 : Value).ownBlock ∧ some k_ ≠ ((.slice Ao26 t169.length co26) : Value).ownBlock) v197 t196) ∧ Aside0 (Kd.R (Kd.int .i64) 3 w' w.heap.size (fun k_ => some k_ ≠ (v197 : Value).ownBlock ∧ some k_ ≠ ((.slice Ao26 t169.length co26) : Value).ownBlock) v201 t200) ∧ Aside0 (Kd.R (Kd.int .i64) 3 w' w.heap.size (fun k_ => some k_ ≠ (v197 : Value).ownBlock ∧ some k_ ≠ (v201 : Value).ownBlock) (.slice Ao26 t169.length co26) t169) ∧ Aside0 (Kd.R k43 43 w' w.heap.size (fun k_ => some k_ ≠ ((.slice Ao36 t181.length co36) : Value).ownBlock) (.slice Ao31 t175.length co31) t175) ∧ Aside0 (Kd.R k43 43 w' w.heap.size (fun k_ => some k_ ≠ ((.slice Ao31 t175.length co31) : Value).ownBlock) (.slice Ao36 t181.length co36) t181) ∧ Aside0 (w'.heap[gb159]? = some (.cells #[.int .i64 t165, .int .i64 t166, .int .i64 t167, .int .i64 t168, (.slice Ao26 t169.length co26)] 24 (0, 0))) ∧ Aside0 (w'.heap[gb160]? = some (.cells #[.int .i64 t172, .int .i64 t173, .int .i64 t174, (.slice Ao31 t175.length co31)] 27 (0, 0))) ∧ Aside0 (w'.heap[gb161]? = some (.cells #[.int .i64 t178, .int .i64 t179, .int .i64 t180, (.slice Ao36 t181.length co36)] 27 (0, 0))) ∧ Aside0 (w'.heap[gb162]? = some (.cells #[.int .i64 a3_0, .int .i64 a3_1, .int .i64 a3_2] 29 (0, 0))) ∧ Aside0 (w'.heap[gb163]? = some (.cells #[.int .i64 a4_0, .int .i64 a4_1, .int .i64 a4_2, .int .i64 a4_3] 31 (0, 0))) ∧ Aside0 (Below w.heap.size w w'))
          case atStart => exact ⟨(0), (by (rfl)), H', ⟨Nat.le_refl _⟩, ⟨by exact Kd.R_mono HO198.out (fun _ hk => ⟨hk.2, hk.1.2⟩)⟩, ⟨by exact Kd.R_mono HO202.out (fun _ hk => ⟨hk.2, hk.1.2⟩)⟩, ⟨by exact Kd.R_mono HO_160004.out (fun _ hk => ⟨hk.1.2, hk.2⟩)⟩, ⟨by exact HO_161003.out⟩, ⟨by exact HO_162003.out⟩, ⟨by exact BK159.out⟩, ⟨by exact BK160.out⟩, ⟨by exact BK161.out⟩, ⟨by exact BK162.out⟩, ⟨by exact BK163.out⟩, ⟨by repeat ((with_reducible (exact HB.out)))⟩⟩
          case round =>
           clear H'
           try clear hcz106_0
           try clear hcz106_1
           try clear hcz106_2
           try clear hcz106_3
           try clear hcz106_4
           try clear hcz110_0
           try clear hcz110_1
           try clear hcz110_2
           try clear hcz110_3
           try clear hcz112_0
           try clear hcz112_1
           try clear hcz112_2
           try clear hcz112_3
           try clear hcz112_4
           try clear hcz113_0
           try clear hcz113_1
           try clear hcz113_2
           try clear hcz113_3
           try clear hcz115_0
           try clear hcz115_1
           try clear hcz115_2
           try clear hcz115_3
           try clear hcz115_4
           try clear hcz116_0
           try clear hcz116_1
           try clear hcz116_2
           try clear hcz116_3
           try clear hfz106_0
           try clear hfz106_1
           try clear hfz106_2
           try clear hfz106_3
           try clear hfz106_4
           try clear hfz110_0
           try clear hfz110_1
           try clear hfz110_2
           try clear hfz110_3
           try clear hfz112_0
           try clear hfz112_1
           try clear hfz112_2
           try clear hfz112_3
           try clear hfz112_4
           try clear hfz113_0
           try clear hfz113_1
           try clear hfz113_2
           try clear hfz113_3
           try clear hfz115_0
           try clear hfz115_1
           try clear hfz115_2
           try clear hfz115_3
           try clear hfz115_4
           try clear hfz116_0
           try clear hfz116_1
           try clear hfz116_2
           try clear hfz116_3
           obtain ⟨x14_3, rfl, HA, HK3, HO_12, HO_13, HO_160004, HO_161003, HO_162003, BK159, BK160, BK161, BK162, BK163, HB⟩ := hrel
           cases gk with
           | zero => exact absurd HA.out (by simp [hortatorlaw7_RuleAll.l0])
           | succ k3 =>
            have H := HA.out
            clear HA
            simp only [hortatorlaw7_RuleAll.l0] at H
            have HC118 := Aside0.mk H
            clear H
            go_upto_region 16 with (fail)
            go_cut [92] (fun v92 wc => ∃ (kq : Nat) (x92_117 : Bool), v92 = .bool x92_117 ∧ Aside0 (hortatorlaw7_RuleAll.j3 kq t196 t200 x14_3 x92_117 = some r) ∧ Aside0 (kq ≤ k3) ∧ Aside0 (Kd.R (Kd.int .i64) 3 wc w.heap.size (fun k_ => some k_ ≠ (v201 : Value).ownBlock ∧ some k_ ≠ ((.slice Ao26 t169.length co26) : Value).ownBlock) v197 t196) ∧ Aside0 (Kd.R (Kd.int .i64) 3 wc w.heap.size (fun k_ => some k_ ≠ (v197 : Value).ownBlock ∧ some k_ ≠ ((.slice Ao26 t169.length co26) : Value).ownBlock) v201 t200) ∧ Aside0 (Kd.R (Kd.int .i64) 3 wc w.heap.size (fun k_ => some k_ ≠ (v197 : Value).ownBlock ∧ some k_ ≠ (v201 : Value).ownBlock) (.slice Ao26 t169.length co26) t169) ∧ Aside0 (Kd.R k43 43 wc w.heap.size (fun k_ => some k_ ≠ ((.slice Ao36 t181.length co36) : Value).ownBlock) (.slice Ao31 t175.length co31) t175) ∧ Aside0 (Kd.R k43 43 wc w.heap.size (fun k_ => some k_ ≠ ((.slice Ao31 t175.length co31) : Value).ownBlock) (.slice Ao36 t181.length co36) t181) ∧ Aside0 (wc.heap[gb159]? = some (.cells #[.int .i64 t165, .int .i64 t166, .int .i64 t167, .int .i64 t168, (.slice Ao26 t169.length co26)] 24 (0, 0))) ∧ Aside0 (wc.heap[gb160]? = some (.cells #[.int .i64 t172, .int .i64 t173, .int .i64 t174, (.slice Ao31 t175.length co31)] 27 (0, 0))) ∧ Aside0 (wc.heap[gb161]? = some (.cells #[.int .i64 t178, .int .i64 t179, .int .i64 t180, (.slice Ao36 t181.length co36)] 27 (0, 0))) ∧ Aside0 (wc.heap[gb162]? = some (.cells #[.int .i64 a3_0, .int .i64 a3_1, .int .i64 a3_2] 29 (0, 0))) ∧ Aside0 (wc.heap[gb163]? = some (.cells #[.int .i64 a4_0, .int .i64 a4_1, .int .i64 a4_2, .int .i64 a4_3] 31 (0, 0))) ∧ Aside0 (Below w.heap.size w wc))
            case first =>
             have H := HC118.out
             clear HC118
             by_cases c119 : x14_3 < (t196.length : Int)
             ·rw [if_pos c119] at H
              have c119b0 : decide (x14_3 < (t196.length : Int)) = true := decide_eq_true c119
              clear c119
              ((skip))
              have H' := Aside0.mk H
              clear H
              obtain ⟨Ao120, co120, eo120⟩ := Kd.R_slice HO_12.out
              subst eo120
              obtain ⟨Ao121, co121, eo121⟩ := Kd.R_slice HO_13.out
              subst eo121
              go_wp2
              go_meet
              case rel => exact ⟨_, (decide (x14_3 < (t200.length : Int))), (by (rfl)), H', ⟨by have := HJ10.out; have := HJ76.out; have := HK3.out; (omega)⟩, ⟨by exact HO_12.out⟩, ⟨by exact HO_13.out⟩, ⟨by exact HO_160004.out⟩, ⟨by exact HO_161003.out⟩, ⟨by exact HO_162003.out⟩, ⟨by exact BK159.out⟩, ⟨by exact BK160.out⟩, ⟨by exact BK161.out⟩, ⟨by exact BK162.out⟩, ⟨by exact BK163.out⟩, ⟨by repeat ((with_reducible (exact HB.out)))⟩⟩
             ·rw [if_neg c119] at H
              have c119b0 : decide (x14_3 < (t196.length : Int)) = false := decide_eq_false c119
              clear c119
              ((skip))
              have H' := Aside0.mk H
              clear H
              obtain ⟨Ao122, co122, eo122⟩ := Kd.R_slice HO_12.out
              subst eo122
              go_wp2
              go_meet
              case rel => exact ⟨_, (false), (by (rfl)), H', ⟨by have := HJ10.out; have := HJ76.out; have := HK3.out; (omega)⟩, ⟨by exact HO_12.out⟩, ⟨by exact HO_13.out⟩, ⟨by exact HO_160004.out⟩, ⟨by exact HO_161003.out⟩, ⟨by exact HO_162003.out⟩, ⟨by exact BK159.out⟩, ⟨by exact BK160.out⟩, ⟨by exact BK161.out⟩, ⟨by exact BK162.out⟩, ⟨by exact BK163.out⟩, ⟨by repeat ((with_reducible (exact HB.out)))⟩⟩
            case rest =>
             clear HC118
             obtain ⟨kq, x92_117, rfl, HA, HJ117, HO_12, HO_13, HO_160004, HO_161003, HO_162003, BK159, BK160, BK161, BK162, BK163, HB⟩ := hcut
             cases kq with
             | zero => exact absurd HA.out (by simp [hortatorlaw7_RuleAll.j3])
             | succ kj117 =>
              have H := HA.out
              clear HA
              simp only [hortatorlaw7_RuleAll.j3] at H
              by_cases c123 : x92_117 = true
              ·subst c123
               have H1 : (if 0 ≤ x14_3 then (if x14_3 < (t196.length : Int) then (if x14_3 < (t200.length : Int) then (if (rd t196 x14_3) = (rd t200 x14_3) then (hortatorlaw7_RuleAll.l0 kj117 t196 t200 (wrap64 (x14_3 + 1))) else (none)) else (none)) else (none)) else (none)) = some r := by rw [if_pos rfl] at H; exact H
               clear H
               have H := H1
               clear H1
               by_cases c124 : 0 ≤ x14_3
               ·rw [if_pos c124] at H
                have c124b0 : decide (0 ≤ x14_3) = true := decide_eq_true c124
                clear c124
                by_cases c125 : x14_3 < (t196.length : Int)
                ·rw [if_pos c125] at H
                 have c125b0 : decide (x14_3 < (t196.length : Int)) = true := decide_eq_true c125
                 clear c125
                 by_cases c126 : x14_3 < (t200.length : Int)
                 ·rw [if_pos c126] at H
                  have c126b0 : decide (x14_3 < (t200.length : Int)) = true := decide_eq_true c126
                  clear c126
                  by_cases c127 : (rd t196 x14_3) = (rd t200 x14_3)
                  ·rw [if_pos c127] at H
                   have c127b0 : ((rd t196 x14_3) == (rd t200 x14_3)) = true := beq_iff_eq.mpr c127
                   have c127b1 : ((rd t196 x14_3) != (rd t200 x14_3)) = false := bne_eq_false_iff_eq.mpr c127
                   clear c127
                   have H' := Aside0.mk H
                   clear H
                   try go_wp2
                   have n0_ := Aside0.mk (Kd.R_drew HO_12.out)
                   have n1_ := Aside0.mk (Kd.R_drew HO_13.out)
                   have n2_ := Aside0.mk (Kd.R_drew HO_160004.out)
                   have n3_ := Aside0.mk (Kd.R_drew HO_161003.out)
                   have n4_ := Aside0.mk (Kd.R_drew HO_162003.out)
                   have n5_ := Aside0.mk (blk_drew BK159.out)
                   have n6_ := Aside0.mk (blk_drew BK160.out)
                   have n7_ := Aside0.mk (blk_drew BK161.out)
                   have n8_ := Aside0.mk (blk_drew BK162.out)
                   have n9_ := Aside0.mk (blk_drew BK163.out)
                   have n10_ := Aside0.mk (below_drew1 HB.out)
                   clear HO_12
                   clear HO_13
                   clear HO_160004
                   clear HO_161003
                   clear HO_162003
                   clear BK159
                   clear BK160
                   clear BK161
                   clear BK162
                   clear BK163
                   clear HB
                   have HO_12 := n0_
                   have HO_13 := n1_
                   have HO_160004 := n2_
                   have HO_161003 := n3_
                   have HO_162003 := n4_
                   have BK159 := n5_
                   have BK160 := n6_
                   have BK161 := n7_
                   have BK162 := n8_
                   have BK163 := n9_
                   have HB := n10_
                   clear n0_ n1_ n2_ n3_ n4_ n5_ n6_ n7_ n8_ n9_ n10_
                   obtain ⟨Ao129, co129, eo129⟩ := Kd.R_slice HO_12.out
                   ((subst eo129))
                   have p203 : 0 ≤ (x14_3 : Int) := of_decide_eq_true (by (with_reducible assumption))
                   have q203 : x14_3 < (t196.length : Int) := of_decide_eq_true (by (with_reducible assumption))
                   obtain ⟨ad203, e203, hx203_0⟩ := Kd.at_int (Kd.R_reads' HO_12.out).2.2 x14_3 p203 q203
                   cases e203
                   replace p203 := eq_true p203
                   replace q203 := eq_true q203
                   obtain ⟨Ao130, co130, eo130⟩ := Kd.R_slice HO_13.out
                   ((subst eo130))
                   have p204 : 0 ≤ (x14_3 : Int) := of_decide_eq_true (by (with_reducible assumption))
                   have q204 : x14_3 < (t200.length : Int) := of_decide_eq_true (by (with_reducible assumption))
                   obtain ⟨ad204, e204, hx204_0⟩ := Kd.at_int (Kd.R_reads' HO_13.out).2.2 x14_3 p204 q204
                   cases e204
                   replace p204 := eq_true p204
                   replace q204 := eq_true q204
                   refine start_ (n := 9) (S := fun w' => w'.cell? (ad203.add (x14_3).toNat) = some (.int .i64 (rd t196 x14_3)) ∧ w'.cell? (ad204.add (x14_3).toNat) = some (.int .i64 (rd t200 x14_3))) (ds := []) #[false, false, false, false, false, false, false, false, false] (by kernel_rfl) rfl rfl ⟨hx203_0, hx204_0⟩ (fun hHeld => ?_); refine with_tabW hortatorlaw7_RuleAll.tab18 hortatorlaw7_RuleAll.bits18 (fun HT_ HW_ => ?_)
                   generalize wc.drew = w128 at HO_12 HO_13 HO_160004 HO_161003 HO_162003 BK159 BK160 BK161 BK162 BK163 HB hx203_0 hx204_0 hHeld ⊢
                   refine pure_ (i := 0) (N := some 95) (v := ?_) (a' := ?_) #[true, false, false, false, false, false, false, false, false] rfl rfl (any_of HT_.out (by kernel_rfl)) (fun _ _ _ h => h) (Or.inl ⟨by rfl, ?_⟩) ?_ ?_
                   rotate_left
                   ·intro w'
                    go_simp
                    with_reducible rfl
                   rotate_left
                   ·simp only [Act.put, List.setIfInBounds_toArray, List.set_cons_zero, List.set_cons_succ, i64_w, i32_w]
                    rfl
                   refine pure_ (i := 1) (N := some 96) (v := ?_) (a' := ?_) #[true, true, false, false, false, false, false, false, false] rfl rfl (any_of HT_.out (by kernel_rfl)) (fun _ _ _ h => h) (Or.inl ⟨by rfl, ?_⟩) ?_ ?_
                   rotate_left
                   ·intro w'
                    go_simp
                    with_reducible rfl
                   rotate_left
                   ·simp only [Act.put, List.setIfInBounds_toArray, List.set_cons_zero, List.set_cons_succ, i64_w, i32_w]
                    rfl
                   refine pure_ (i := 2) (N := some 97) (v := ?_) (a' := ?_) #[true, true, true, false, false, false, false, false, false] rfl rfl (any_of HT_.out (by kernel_rfl)) (fun _ _ _ h => h) (Or.inl ⟨by rfl, ?_⟩) ?_ ?_
                   rotate_left
                   ·intro w'
                    go_simp
                    with_reducible rfl
                   rotate_left
                   ·simp only [Act.put, List.setIfInBounds_toArray, List.set_cons_zero, List.set_cons_succ, i64_w, i32_w]
                    rfl
                   refine pure_ (i := 4) (N := some 99) (v := ?_) (a' := ?_) #[true, true, true, false, true, false, false, false, false] rfl rfl (any_of HT_.out (by kernel_rfl)) (fun _ _ _ h => h) (Or.inl ⟨by rfl, ?_⟩) ?_ ?_
                   rotate_left
                   ·intro w'
                    go_simp
                    with_reducible rfl
                   rotate_left
                   ·simp only [Act.put, List.setIfInBounds_toArray, List.set_cons_zero, List.set_cons_succ, i64_w, i32_w]
                    rfl
                   refine pure_ (i := 5) (N := some 100) (v := ?_) (a' := ?_) #[true, true, true, false, true, true, false, false, false] rfl rfl (any_of HT_.out (by kernel_rfl)) (fun _ _ _ h => h) (Or.inl ⟨by rfl, ?_⟩) ?_ ?_
                   rotate_left
                   ·intro w'
                    go_simp
                    with_reducible rfl
                   rotate_left
                   ·simp only [Act.put, List.setIfInBounds_toArray, List.set_cons_zero, List.set_cons_succ, i64_w, i32_w]
                    rfl
                   refine pure_ (i := 6) (N := some 101) (v := ?_) (a' := ?_) #[true, true, true, false, true, true, true, false, false] rfl rfl (any_of HT_.out (by kernel_rfl)) (fun _ _ _ h => h) (Or.inl ⟨by rfl, ?_⟩) ?_ ?_
                   rotate_left
                   ·intro w'
                    go_simp
                    with_reducible rfl
                   rotate_left
                   ·simp only [Act.put, List.setIfInBounds_toArray, List.set_cons_zero, List.set_cons_succ, i64_w, i32_w]
                    rfl
                   refine take_ (i := 3) (N := some 98) (v := ?_) (a' := ?_) #[true, true, true, true, true, true, true, false, false] rfl rfl (take_ofW HT_.out HW_.out (by kernel_rfl)) (fun _ _ _ h => h) (Or.inl ⟨by rfl, ?_⟩) hHeld ?_ ?_
                   rotate_left
                   ·rintro w' ⟨s0, s1⟩
                    go_simp
                    with_reducible rfl
                   rotate_left
                   ·simp only [Act.put, List.setIfInBounds_toArray, List.set_cons_zero, List.set_cons_succ, i64_w, i32_w]
                    rfl
                   refine take_ (i := 7) (N := some 102) (v := ?_) (a' := ?_) #[true, true, true, true, true, true, true, true, false] rfl rfl (take_ofW HT_.out HW_.out (by kernel_rfl)) (fun _ _ _ h => h) (Or.inl ⟨by rfl, ?_⟩) hHeld ?_ ?_
                   rotate_left
                   ·rintro w' ⟨s0, s1⟩
                    go_simp
                    with_reducible rfl
                   rotate_left
                   ·simp only [Act.put, List.setIfInBounds_toArray, List.set_cons_zero, List.set_cons_succ, i64_w, i32_w]
                    rfl
                   refine pure_ (i := 8) (N := some 103) (v := ?_) (a' := ?_) #[true, true, true, true, true, true, true, true, true] rfl rfl (any_of HT_.out (by kernel_rfl)) (fun _ _ _ h => h) (Or.inl ⟨by rfl, ?_⟩) ?_ ?_
                   rotate_left
                   ·intro w'
                    go_simp
                    with_reducible rfl
                   rotate_left
                   ·simp only [Act.put, List.setIfInBounds_toArray, List.set_cons_zero, List.set_cons_succ, i64_w, i32_w]
                    rfl
                   refine done_ (done_of HT_.out (by kernel_rfl)) ?_
                   try go_wp2
                   go_roundg kj117
                   case measure => have := HJ10.out; have := HJ76.out; have := HK3.out; have := HJ117.out; omega
                   case rel => exact ⟨(wrap64 (x14_3 + 1)), (by (rfl)), H', ⟨by have := HJ10.out; have := HJ76.out; have := HK3.out; have := HJ117.out; omega⟩, ⟨by exact HO_12.out⟩, ⟨by exact HO_13.out⟩, ⟨by exact HO_160004.out⟩, ⟨by exact HO_161003.out⟩, ⟨by exact HO_162003.out⟩, ⟨by exact BK159.out⟩, ⟨by exact BK160.out⟩, ⟨by exact BK161.out⟩, ⟨by exact BK162.out⟩, ⟨by exact BK163.out⟩, ⟨by repeat ((with_reducible (exact HB.out)))⟩⟩
                  ·rw [if_neg c127] at H
                   exact absurd H (by simp)
                 ·rw [if_neg c126] at H
                  exact absurd H (by simp)
                ·rw [if_neg c125] at H
                 exact absurd H (by simp)
               ·rw [if_neg c124] at H
                exact absurd H (by simp)
              ·replace c123 := Bool.eq_false_iff.mpr c123
               subst c123
               have H1 : (some ((t196.length : Int) == (t200.length : Int))) = some r := by rw [if_neg (show ¬ (false = true) by decide)] at H; exact H
               clear H
               have H := H1
               clear H1
               obtain rfl := Option.some.inj H
               obtain ⟨Ao131, co131, eo131⟩ := Kd.R_slice HO_12.out
               subst eo131
               obtain ⟨Ao132, co132, eo132⟩ := Kd.R_slice HO_13.out
               subst eo132
               go_wp2
               go_ret
               exact ⟨by (rfl), by repeat ((with_reducible (exact HB.out)))⟩
         ·replace c100 := Bool.eq_false_iff.mpr c100
          subst c100
          have H1 : (some ((t196.length : Int) == 0)) = some r := by rw [if_neg (show ¬ (false = true) by decide)] at H; exact H
          clear H
          have H := H1
          clear H1
          obtain rfl := Option.some.inj H
          have hnb133 := NB159_160.out
          have hnc133 := NB160_159.out
          have hnb134 := NB159_161.out
          have hnc134 := NB161_159.out
          have hnb135 := NB159_162.out
          have hnc135 := NB162_159.out
          have hnb136 := NB159_163.out
          have hnc136 := NB163_159.out
          have hcz137_0 : wc.cell? ⟨gb159, 0, none⟩ = some (.int .i64 t165) := (blk_cell BK159.out 0).trans rfl
          have hcz137_1 : wc.cell? ⟨gb159, 1, none⟩ = some (.int .i64 t166) := (blk_cell BK159.out 1).trans rfl
          have hcz137_2 : wc.cell? ⟨gb159, 2, none⟩ = some (.int .i64 t167) := (blk_cell BK159.out 2).trans rfl
          have hcz137_3 : wc.cell? ⟨gb159, 3, none⟩ = some (.int .i64 t168) := (blk_cell BK159.out 3).trans rfl
          have hcz137_4 : wc.cell? ⟨gb159, 4, none⟩ = some (.slice Ao26 t169.length co26) := (blk_cell BK159.out 4).trans rfl
          have hfz137_0 := blk_frozen BK159.out 0
          have hfz137_1 := blk_frozen BK159.out 1
          have hfz137_2 := blk_frozen BK159.out 2
          have hfz137_3 := blk_frozen BK159.out 3
          have hfz137_4 := blk_frozen BK159.out 4
          have hnb138 := NB160_161.out
          have hnc138 := NB161_160.out
          have hnb139 := NB160_162.out
          have hnc139 := NB162_160.out
          have hnb140 := NB160_163.out
          have hnc140 := NB163_160.out
          have hcz141_0 : wc.cell? ⟨gb160, 0, none⟩ = some (.int .i64 t172) := (blk_cell BK160.out 0).trans rfl
          have hcz141_1 : wc.cell? ⟨gb160, 1, none⟩ = some (.int .i64 t173) := (blk_cell BK160.out 1).trans rfl
          have hcz141_2 : wc.cell? ⟨gb160, 2, none⟩ = some (.int .i64 t174) := (blk_cell BK160.out 2).trans rfl
          have hcz141_3 : wc.cell? ⟨gb160, 3, none⟩ = some (.slice Ao31 t175.length co31) := (blk_cell BK160.out 3).trans rfl
          have hfz141_0 := blk_frozen BK160.out 0
          have hfz141_1 := blk_frozen BK160.out 1
          have hfz141_2 := blk_frozen BK160.out 2
          have hfz141_3 := blk_frozen BK160.out 3
          go_wp2_with (first | ((with_reducible refine gate_callee (f := 26) rfl ?_); refine goesL_ (some 72) rfl rfl Tryz.func26 (by kernel_rfl) rfl #[.agg #[.int .i64 t165, .int .i64 t166, .int .i64 t167, .int .i64 t168, .slice Ao26 t169.length co26], .agg #[.int .i64 t172, .int .i64 t173, .int .i64 t174, .slice Ao31 t175.length co31]] rfl (by (try simp only [List.map_toArray, List.map_cons, List.map_nil]); (rfl)) ?_; (with_reducible refine (rule_Agents.calls kj76 t165 t166 t167 t168 _ _ t169 t172 t173 t174 _ _ t175 t196 _ ?side1 ?side2 ?side3 ?side4 A98.out).mono ?_); (case side1 => repeat ((exact (Kd.R_reads' HO_160004.out).2.2))); (case side2 => exact (Kd.R_reads' HO_160004.out).2.1); (case side3 => repeat ((exact (Kd.R_reads' HO_161003.out).2.2))); (case side4 => exact (Kd.R_reads' HO_161003.out).2.1); rintro e w142 ⟨v197, rfl, ho0, hb⟩; refine ⟨_, rfl, ?_⟩; have n0_ := Aside0.mk (Kd.R_elder' (by exact HO_160004.out) (Kd.R_base ho0) hb); have n1_ := Aside0.mk (Kd.R_below (by exact HO_161003.out) hb); have n2_ := Aside0.mk (Kd.R_below (by exact HO_162003.out) hb); have n3_ := Aside0.mk (Kd.R_lower (Kd.R_new' ho0 (Kd.R_lt (by exact HO_160004.out))) (below_size (by repeat ((with_reducible (exact HB.out)))))); have n4_ := Aside0.mk (blk_below (g := gb159) (o := .cells #[.int .i64 t165, .int .i64 t166, .int .i64 t167, .int .i64 t168, .slice Ao26 t169.length co26] 24 (0, 0)) (by exact BK159.out) hb); have n5_ := Aside0.mk (blk_below (g := gb160) (o := .cells #[.int .i64 t172, .int .i64 t173, .int .i64 t174, .slice Ao31 t175.length co31] 27 (0, 0)) (by exact BK160.out) hb); have n6_ := Aside0.mk (blk_below (g := gb161) (o := .cells #[.int .i64 t178, .int .i64 t179, .int .i64 t180, .slice Ao36 t181.length co36] 27 (0, 0)) (by exact BK161.out) hb); have n7_ := Aside0.mk (blk_below (g := gb162) (o := .cells #[.int .i64 a3_0, .int .i64 a3_1, .int .i64 a3_2] 29 (0, 0)) (by exact BK162.out) hb); have n8_ := Aside0.mk (blk_below (g := gb163) (o := .cells #[.int .i64 a4_0, .int .i64 a4_1, .int .i64 a4_2, .int .i64 a4_3] 31 (0, 0)) (by exact BK163.out) hb); have n9_ := Aside0.mk (below_step (by repeat ((with_reducible (exact HB.out)))) hb); clear HO_160004; clear HO_161003; clear HO_162003; clear BK159; clear BK160; clear BK161; clear BK162; clear BK163; clear HB; have HO_160004 := n0_; have HO_161003 := n1_; have HO_162003 := n2_; have HO198 := n3_; have BK159 := n4_; have BK160 := n5_; have BK161 := n6_; have BK162 := n7_; have BK163 := n8_; have HB := n9_; clear n0_ n1_ n2_ n3_ n4_ n5_ n6_ n7_ n8_ n9_; (try clear hb); (try clear hb2); (try clear hk); (try clear hi); (try clear ho0); have hcz143_0 : w142.cell? ⟨gb159, 0, none⟩ = some (.int .i64 t165) := (blk_cell BK159.out 0).trans rfl; have hcz143_1 : w142.cell? ⟨gb159, 1, none⟩ = some (.int .i64 t166) := (blk_cell BK159.out 1).trans rfl; have hcz143_2 : w142.cell? ⟨gb159, 2, none⟩ = some (.int .i64 t167) := (blk_cell BK159.out 2).trans rfl; have hcz143_3 : w142.cell? ⟨gb159, 3, none⟩ = some (.int .i64 t168) := (blk_cell BK159.out 3).trans rfl; have hcz143_4 : w142.cell? ⟨gb159, 4, none⟩ = some (.slice Ao26 t169.length co26) := (blk_cell BK159.out 4).trans rfl; have hfz143_0 := blk_frozen BK159.out 0; have hfz143_1 := blk_frozen BK159.out 1; have hfz143_2 := blk_frozen BK159.out 2; have hfz143_3 := blk_frozen BK159.out 3; have hfz143_4 := blk_frozen BK159.out 4; have hcz144_0 : w142.cell? ⟨gb160, 0, none⟩ = some (.int .i64 t172) := (blk_cell BK160.out 0).trans rfl; have hcz144_1 : w142.cell? ⟨gb160, 1, none⟩ = some (.int .i64 t173) := (blk_cell BK160.out 1).trans rfl; have hcz144_2 : w142.cell? ⟨gb160, 2, none⟩ = some (.int .i64 t174) := (blk_cell BK160.out 2).trans rfl; have hcz144_3 : w142.cell? ⟨gb160, 3, none⟩ = some (.slice Ao31 t175.length co31) := (blk_cell BK160.out 3).trans rfl; have hfz144_0 := blk_frozen BK160.out 0; have hfz144_1 := blk_frozen BK160.out 1; have hfz144_2 := blk_frozen BK160.out 2; have hfz144_3 := blk_frozen BK160.out 3) | ((with_reducible refine gate_callee (f := 23) rfl ?_); refine goesL_ (some 75) rfl rfl Tryz.func23 (by kernel_rfl) rfl #[.agg #[.int .i64 t165, .int .i64 t166, .int .i64 t167, .int .i64 t168, .slice Ao26 t169.length co26], .agg #[.int .i64 t172, .int .i64 t173, .int .i64 t174, .slice Ao31 t175.length co31]] rfl (by (try simp only [List.map_toArray, List.map_cons, List.map_nil]); (rfl)) ?_; (with_reducible refine (hortatorref7_Task.calls t165 t166 t167 t168 _ _ t169 t172 t173 t174 _ _ t175 false _ ?side1 ?side2 ?side3 ?side4 A99.out).mono ?_); (case side1 => repeat ((exact (Kd.R_reads' HO_160004.out).2.2))); (case side2 => exact (Kd.R_reads' HO_160004.out).2.1); (case side3 => repeat ((exact (Kd.R_reads' HO_161003.out).2.2))); (case side4 => exact (Kd.R_reads' HO_161003.out).2.1); rintro e w145 ⟨rfl, hb⟩; refine ⟨_, rfl, ?_⟩; have n0_ := Aside0.mk (Kd.R_below (by exact HO_160004.out) hb); have n1_ := Aside0.mk (Kd.R_below (by exact HO_161003.out) hb); have n2_ := Aside0.mk (Kd.R_below (by exact HO_162003.out) hb); have n3_ := Aside0.mk (Kd.R_below (by exact HO198.out) hb); have n4_ := Aside0.mk (blk_below (g := gb159) (o := .cells #[.int .i64 t165, .int .i64 t166, .int .i64 t167, .int .i64 t168, .slice Ao26 t169.length co26] 24 (0, 0)) (by exact BK159.out) hb); have n5_ := Aside0.mk (blk_below (g := gb160) (o := .cells #[.int .i64 t172, .int .i64 t173, .int .i64 t174, .slice Ao31 t175.length co31] 27 (0, 0)) (by exact BK160.out) hb); have n6_ := Aside0.mk (blk_below (g := gb161) (o := .cells #[.int .i64 t178, .int .i64 t179, .int .i64 t180, .slice Ao36 t181.length co36] 27 (0, 0)) (by exact BK161.out) hb); have n7_ := Aside0.mk (blk_below (g := gb162) (o := .cells #[.int .i64 a3_0, .int .i64 a3_1, .int .i64 a3_2] 29 (0, 0)) (by exact BK162.out) hb); have n8_ := Aside0.mk (blk_below (g := gb163) (o := .cells #[.int .i64 a4_0, .int .i64 a4_1, .int .i64 a4_2, .int .i64 a4_3] 31 (0, 0)) (by exact BK163.out) hb); have n9_ := Aside0.mk (below_step (by repeat ((with_reducible (exact HB.out)))) hb); clear HO_160004; clear HO_161003; clear HO_162003; clear HO198; clear BK159; clear BK160; clear BK161; clear BK162; clear BK163; clear HB; have HO_160004 := n0_; have HO_161003 := n1_; have HO_162003 := n2_; have HO198 := n3_; have BK159 := n4_; have BK160 := n5_; have BK161 := n6_; have BK162 := n7_; have BK163 := n8_; have HB := n9_; clear n0_ n1_ n2_ n3_ n4_ n5_ n6_ n7_ n8_ n9_; (try clear hb); (try clear hb2); (try clear hk); (try clear hi); obtain ⟨Ao146, co146, eo146⟩ := Kd.R_slice HO198.out; subst eo146))
          go_ret
          exact ⟨by (rfl), by repeat ((with_reducible (exact HB.out)))⟩
     ·replace c76 := Bool.eq_false_iff.mpr c76
      subst c76
      have H1 : (some true) = some r := by rw [if_neg (show ¬ (false = true) by decide)] at H; exact H
      clear H
      have H := H1
      clear H1
      obtain rfl := Option.some.inj H
      have hnb147 := NB159_160.out
      have hnc147 := NB160_159.out
      have hnb148 := NB159_161.out
      have hnc148 := NB161_159.out
      have hnb149 := NB159_162.out
      have hnc149 := NB162_159.out
      have hnb150 := NB159_163.out
      have hnc150 := NB163_159.out
      have hcz151_0 : wc.cell? ⟨gb159, 0, none⟩ = some (.int .i64 t165) := (blk_cell BK159.out 0).trans rfl
      have hcz151_1 : wc.cell? ⟨gb159, 1, none⟩ = some (.int .i64 t166) := (blk_cell BK159.out 1).trans rfl
      have hcz151_2 : wc.cell? ⟨gb159, 2, none⟩ = some (.int .i64 t167) := (blk_cell BK159.out 2).trans rfl
      have hcz151_3 : wc.cell? ⟨gb159, 3, none⟩ = some (.int .i64 t168) := (blk_cell BK159.out 3).trans rfl
      have hcz151_4 : wc.cell? ⟨gb159, 4, none⟩ = some (.slice Ao26 t169.length co26) := (blk_cell BK159.out 4).trans rfl
      have hfz151_0 := blk_frozen BK159.out 0
      have hfz151_1 := blk_frozen BK159.out 1
      have hfz151_2 := blk_frozen BK159.out 2
      have hfz151_3 := blk_frozen BK159.out 3
      have hfz151_4 := blk_frozen BK159.out 4
      go_wp2_with (((with_reducible refine gate_callee (f := 17) rfl ?_); refine goesL_ (some 52) rfl rfl Tryz.func17 (by kernel_rfl) rfl #[.agg #[.int .i64 t165, .int .i64 t166, .int .i64 t167, .int .i64 t168, .slice Ao26 t169.length co26]] rfl (by (try simp only [List.map_toArray, List.map_cons, List.map_nil]); (rfl)) ?_; (with_reducible refine (hortatorref7_Config.calls kj10 t165 t166 t167 t168 _ _ t169 false _ ?side1 ?side2 A75.out).mono ?_); (case side1 => repeat ((exact (Kd.R_reads' HO_160004.out).2.2))); (case side2 => exact (Kd.R_reads' HO_160004.out).2.1); rintro e w152 ⟨rfl, hb⟩; refine ⟨_, rfl, ?_⟩; have n0_ := Aside0.mk (Kd.R_below (by exact HO_160004.out) hb); have n1_ := Aside0.mk (Kd.R_below (by exact HO_161003.out) hb); have n2_ := Aside0.mk (Kd.R_below (by exact HO_162003.out) hb); have n3_ := Aside0.mk (blk_below (g := gb159) (o := .cells #[.int .i64 t165, .int .i64 t166, .int .i64 t167, .int .i64 t168, .slice Ao26 t169.length co26] 24 (0, 0)) (by exact BK159.out) hb); have n4_ := Aside0.mk (blk_below (g := gb160) (o := .cells #[.int .i64 t172, .int .i64 t173, .int .i64 t174, .slice Ao31 t175.length co31] 27 (0, 0)) (by exact BK160.out) hb); have n5_ := Aside0.mk (blk_below (g := gb161) (o := .cells #[.int .i64 t178, .int .i64 t179, .int .i64 t180, .slice Ao36 t181.length co36] 27 (0, 0)) (by exact BK161.out) hb); have n6_ := Aside0.mk (blk_below (g := gb162) (o := .cells #[.int .i64 a3_0, .int .i64 a3_1, .int .i64 a3_2] 29 (0, 0)) (by exact BK162.out) hb); have n7_ := Aside0.mk (blk_below (g := gb163) (o := .cells #[.int .i64 a4_0, .int .i64 a4_1, .int .i64 a4_2, .int .i64 a4_3] 31 (0, 0)) (by exact BK163.out) hb); have n8_ := Aside0.mk (below_step (by repeat ((with_reducible (exact HB.out)))) hb); clear HO_160004; clear HO_161003; clear HO_162003; clear BK159; clear BK160; clear BK161; clear BK162; clear BK163; clear HB; have HO_160004 := n0_; have HO_161003 := n1_; have HO_162003 := n2_; have BK159 := n3_; have BK160 := n4_; have BK161 := n5_; have BK162 := n6_; have BK163 := n7_; have HB := n8_; clear n0_ n1_ n2_ n3_ n4_ n5_ n6_ n7_ n8_; (try clear hb); (try clear hb2); (try clear hk); (try clear hi)))
      go_ret
      exact ⟨by (rfl), by repeat ((with_reducible (exact HB.out)))⟩
 ·replace c7 := Bool.eq_false_iff.mpr c7
  subst c7
  have H1 : (none) = some r := by rw [if_neg (show ¬ (false = true) by decide)] at H; exact H
  clear H
  have H := H1
  clear H1
  exact absurd H (by simp)
end Go.Proofs.YtjjlicancbmjiaaGreatDoor.PBeg
