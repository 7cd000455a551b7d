-- Written by a program of this session (wip/pp.py) over the kit's print, with hand-proved contracts beside it.
import Derived.Test.YtjjlicancbmjiaaGreatDoorPBegx0
import Derived.Test.YtjjlicancbmjiaaGreatDoorPBegx1
import Derived.Test.YtjjlicancbmjiaaGreatDoorPBegx3
import Derived.Test.YtjjlicancbmjiaaGreatDoorPBegx5
import Derived.Test.YtjjlicancbmjiaaGreatDoorPBegx13
import Derived.Test.YtjjlicancbmjiaaGreatDoorPBegx14
import Derived.Test.YtjjlicancbmjiaaGreatDoorWn
import Derived.Test.YtjjlicancbmjiaaGreatDoorL2a
import Derived.Test.YtjjlicancbmjiaaGreatDoorL3
import Derived.Test.YtjjlicancbmjiaaGreatDoorL6
namespace Go.Proofs.YtjjlicancbmjiaaGreatDoor.PBeg
open Go.Shelf Go.Lib Go.RowKit Go.Proofs.YtjjlicancbmjiaaGreatDoorW.PrintWords Go.Proofs.YtjjlicancbmjiaaGreatDoorW.PrintLast Go.Proofs.YtjjlicancbmjiaaGreatDoorW.PrintMore
attribute [local go_sem] max2_int min2_int max_two min_two max_three min_three max_four min_four   -- for this text's walks alone
set_option linter.unusedVariables false
set_option linter.unusedSimpArgs false

/-! ### hortatorref7_digits: function 48 -/
def hortatorref7_digits.l0 : Nat → Int → ByteArray → Option (ByteArray)
 | 0, _, _ => none
 | k + 1, x0, x3 => (some (([(wrap64 (48 + (Int.tmod x0 10))) % 256] : List Int) : List Int)).bind fun y172 => (if (strOfNums y172).size + x3.size ≤ 9223372036854775807 then (if (wrap64 (Int.tdiv x0 10)) = 0 then (some ((strOfNums y172) ++ x3)) else (hortatorref7_digits.l0 k (wrap64 (Int.tdiv x0 10)) ((strOfNums y172) ++ x3))) else (none))
def hortatorref7_digits.f (k : Nat) (a0 : Int) : Option (ByteArray) := hortatorref7_digits.l0 k a0 (⟨#[]⟩ : ByteArray)
set_option maxHeartbeats 8000000 in
set_option maxRecDepth 100000 in
theorem hortatorref7_digits.calls (k : Nat) (a0 : Int) (r : ByteArray) (w : World) (h : hortatorref7_digits.f k a0 = some r) :
  Calls Tryz.prog 48 #[.int .i64 a0] w fun e w' => e = .returned (.string r) ∧ Below w.heap.size w w' := by
 have HB := Aside0.mk (Below.refl w.heap.size w)
 have H : (hortatorref7_digits.l0 k a0 (⟨#[]⟩ : ByteArray)) = some r := h
 clear h
 have H' := Aside0.mk H
 clear H
 go_enter Tryz.func48, Tryz.ntmps48
 go_wp2
 go_loopg [0, 3] k (fun kq v0 v3 w' => ∃ (x0_1 : Int) (x3_1 : ByteArray), v0 = .int .i64 x0_1 ∧ v3 = .string x3_1 ∧ Aside0 (hortatorref7_digits.l0 kq x0_1 x3_1 = some r) ∧ Aside0 (kq ≤ k) ∧ Aside0 (Below w.heap.size w w'))
 case atStart => exact ⟨(a0), ((⟨#[]⟩ : ByteArray)), (by (rfl)), (by (rfl)), H', ⟨Nat.le_refl _⟩, ⟨HB.out⟩⟩
 case round =>
  clear H'
  obtain ⟨x0_1, x3_1, rfl, rfl, HA, HK1, HB⟩ := hrel
  cases gk with
  | zero => exact absurd HA.out (by simp [hortatorref7_digits.l0])
  | succ k1 =>
   have H := HA.out
   clear HA
   simp only [hortatorref7_digits.l0] at H
   obtain ⟨y172, hy172⟩ : ∃ y_ : List Int, y_ = (([(wrap64 (48 + (Int.tmod x0_1 10))) % 256] : List Int)) := ⟨_, rfl⟩
   replace H : (if (strOfNums y172).size + x3_1.size ≤ 9223372036854775807 then (if (wrap64 (Int.tdiv x0_1 10)) = 0 then (some ((strOfNums y172) ++ x3_1)) else (hortatorref7_digits.l0 k1 (wrap64 (Int.tdiv x0_1 10)) ((strOfNums y172) ++ x3_1))) else (none)) = some r := by (have H2_ := (Option.bind_some _ _).symm.trans H; rw [hy172]; with_reducible exact H2_)
   have Ny172 := Aside0.mk hy172
   clear hy172
   by_cases c2 : (strOfNums y172).size + x3_1.size ≤ 9223372036854775807
   ·rw [if_pos c2] at H
    have c2b0 := eq_true c2
    have c2b1 : decide ((strOfNums y172).size + x3_1.size ≤ 9223372036854775807) = true := decide_eq_true c2
    try have c2b2 : (9223372036854775807 < (strOfNums y172).size + x3_1.size) = False := eq_false (Nat.not_lt.2 c2)
    by_cases c3 : (wrap64 (Int.tdiv x0_1 10)) = 0
    ·rw [if_pos c3] at H
     have c3b0 : ((wrap64 (Int.tdiv x0_1 10)) == 0) = true := beq_iff_eq.mpr c3
     have c3b1 : ((wrap64 (Int.tdiv x0_1 10)) != 0) = false := bne_eq_false_iff_eq.mpr c3
     clear c3
     obtain rfl := Option.some.inj H
     go_wp2_with (((with_reducible refine gate_dst (N := 8) rfl ?_); refine Kd.R_lit (Kd.int .u8) _ 5 ?hg (N := 8) ?hd (xs := ([(wrap64 (48 + (Int.tmod x0_1 10))) % 256] : List Int)) (inner := [.int .u8 ((wrap64 (48 + (Int.tmod x0_1 10))) % 256)]) (ok := fun _ => True) (okp := fun _ => True) ?hr ?hp (fun _ hk => hk) trivial (Below.refl _ _) (Nat.le_refl _) (by simp) ?_; (case hd => rfl); (case hg => rfl); (case hr => (go_simp; done)); (case hp => exact (Reps.one (show Kd.M (Kd.int .u8) _ _ _ ((wrap64 (48 + (Int.tmod x0_1 10))) % 256) [.int .u8 ((wrap64 (48 + (Int.tmod x0_1 10))) % 256)] from rfl) (Reps.none _ _))); intro v173 w4 ho5 hb hg_ hnew_; clear hg_ hnew_; ((rw [← Ny172.out] at ho5)); have HO174 := Aside0.mk (Kd.R_lower ho5 (below_size HB.out)); replace HB := Aside0.mk (below_step HB.out hb); clear hb ho5; have hcv6 := own_string (P := Tryz.prog) Tryz.underlying56 Tryz.underlying5 Tryz.underlying9 (Kd.own_of_R HO174.out)))
     go_ret
     exact ⟨by (rfl), by repeat ((with_reducible (exact HB.out)))⟩
    ·rw [if_neg c3] at H
     have c3b0 : ((wrap64 (Int.tdiv x0_1 10)) == 0) = false := beq_eq_false_iff_ne.mpr c3
     have c3b1 : ((wrap64 (Int.tdiv x0_1 10)) != 0) = true := bne_iff_ne.mpr c3
     have H' := Aside0.mk H
     clear H
     go_wp2_with (((with_reducible refine gate_dst (N := 8) rfl ?_); refine Kd.R_lit (Kd.int .u8) _ 5 ?hg (N := 8) ?hd (xs := ([(wrap64 (48 + (Int.tmod x0_1 10))) % 256] : List Int)) (inner := [.int .u8 ((wrap64 (48 + (Int.tmod x0_1 10))) % 256)]) (ok := fun _ => True) (okp := fun _ => True) ?hr ?hp (fun _ hk => hk) trivial (Below.refl _ _) (Nat.le_refl _) (by simp) ?_; (case hd => rfl); (case hg => rfl); (case hr => (go_simp; done)); (case hp => exact (Reps.one (show Kd.M (Kd.int .u8) _ _ _ ((wrap64 (48 + (Int.tmod x0_1 10))) % 256) [.int .u8 ((wrap64 (48 + (Int.tmod x0_1 10))) % 256)] from rfl) (Reps.none _ _))); intro v173 w7 ho8 hb hg_ hnew_; clear hg_ hnew_; ((rw [← Ny172.out] at ho8)); have HO174 := Aside0.mk (Kd.R_lower ho8 (below_size HB.out)); replace HB := Aside0.mk (below_step HB.out hb); clear hb ho8; have hcv9 := own_string (P := Tryz.prog) Tryz.underlying56 Tryz.underlying5 Tryz.underlying9 (Kd.own_of_R HO174.out)))
     go_roundg k1
     case measure => have := HK1.out; omega
     case rel => exact ⟨(wrap64 (Int.tdiv x0_1 10)), ((strOfNums y172) ++ x3_1), (by (rfl)), (by (rfl)), H', ⟨by have := HK1.out; omega⟩, ⟨HB.out⟩⟩
   ·rw [if_neg c2] at H
    exact absurd H (by simp)

/-! ### hortatorref7_PutConfig: function 30 -/
def hortatorref7_PutConfig.l0 : Nat → ByteArray → Int → Int → Int → Int → Int → List Int → Option (ByteArray)
 | 0, _, _, _, _, _, _, _ => none
 | k + 1, x3, x4, x176000, x176001, x176002, x176003, x176004 => if x4 < (x176004.length : Int) then (if x4 = 0 then (if x3.size + 4 ≤ 9223372036854775807 then (if 0 ≤ x4 then ((hortatorref7_digits.f k (rd x176004 x4)).bind fun t182 => (if 1 + t182.size ≤ 9223372036854775807 then (if (x3 ++ (⟨#[32, 114, 101, 115]⟩ : ByteArray)).size + ((⟨#[32]⟩ : ByteArray) ++ t182).size ≤ 9223372036854775807 then (hortatorref7_PutConfig.l0 k ((x3 ++ (⟨#[32, 114, 101, 115]⟩ : ByteArray)) ++ ((⟨#[32]⟩ : ByteArray) ++ t182)) (wrap64 (x4 + 1)) x176000 x176001 x176002 x176003 x176004) else (none)) else (none))) else (none)) else (none)) else (if 0 ≤ x4 then ((hortatorref7_digits.f k (rd x176004 x4)).bind fun t184 => (if 1 + t184.size ≤ 9223372036854775807 then (if x3.size + ((⟨#[32]⟩ : ByteArray) ++ t184).size ≤ 9223372036854775807 then (hortatorref7_PutConfig.l0 k (x3 ++ ((⟨#[32]⟩ : ByteArray) ++ t184)) (wrap64 (x4 + 1)) x176000 x176001 x176002 x176003 x176004) else (none)) else (none))) else (none))) else (some x3)
def hortatorref7_PutConfig.f (k : Nat) (a0_0 : Int) (a0_1 : Int) (a0_2 : Int) (a0_3 : Int) (l0_4 : List Int) : Option (ByteArray) := (hortatorref7_Config.f k a0_0 a0_1 a0_2 a0_3 l0_4).bind fun t176 => (if t176 = true then ((hortatorref7_digits.f k a0_0).bind fun t177 => (if 6 + t177.size ≤ 9223372036854775807 then (if ((⟨#[99, 111, 114, 101, 115, 32]⟩ : ByteArray) ++ t177).size + 7 ≤ 9223372036854775807 then ((hortatorref7_digits.f k a0_1).bind fun t178 => (if (((⟨#[99, 111, 114, 101, 115, 32]⟩ : ByteArray) ++ t177) ++ (⟨#[32, 115, 121, 110, 99, 115, 32]⟩ : ByteArray)).size + t178.size ≤ 9223372036854775807 then (if ((((⟨#[99, 111, 114, 101, 115, 32]⟩ : ByteArray) ++ t177) ++ (⟨#[32, 115, 121, 110, 99, 115, 32]⟩ : ByteArray)) ++ t178).size + 5 ≤ 9223372036854775807 then ((hortatorref7_digits.f k a0_2).bind fun t179 => (if (((((⟨#[99, 111, 114, 101, 115, 32]⟩ : ByteArray) ++ t177) ++ (⟨#[32, 115, 121, 110, 99, 115, 32]⟩ : ByteArray)) ++ t178) ++ (⟨#[32, 108, 97, 103, 32]⟩ : ByteArray)).size + t179.size ≤ 9223372036854775807 then (if ((((((⟨#[99, 111, 114, 101, 115, 32]⟩ : ByteArray) ++ t177) ++ (⟨#[32, 115, 121, 110, 99, 115, 32]⟩ : ByteArray)) ++ t178) ++ (⟨#[32, 108, 97, 103, 32]⟩ : ByteArray)) ++ t179).size + 6 ≤ 9223372036854775807 then ((hortatorref7_digits.f k a0_3).bind fun t180 => (if (((((((⟨#[99, 111, 114, 101, 115, 32]⟩ : ByteArray) ++ t177) ++ (⟨#[32, 115, 121, 110, 99, 115, 32]⟩ : ByteArray)) ++ t178) ++ (⟨#[32, 108, 97, 103, 32]⟩ : ByteArray)) ++ t179) ++ (⟨#[32, 109, 111, 118, 101, 32]⟩ : ByteArray)).size + t180.size ≤ 9223372036854775807 then (hortatorref7_PutConfig.l0 k ((((((((⟨#[99, 111, 114, 101, 115, 32]⟩ : ByteArray) ++ t177) ++ (⟨#[32, 115, 121, 110, 99, 115, 32]⟩ : ByteArray)) ++ t178) ++ (⟨#[32, 108, 97, 103, 32]⟩ : ByteArray)) ++ t179) ++ (⟨#[32, 109, 111, 118, 101, 32]⟩ : ByteArray)) ++ t180) 0 a0_0 a0_1 a0_2 a0_3 l0_4) else (none))) else (none)) else (none))) else (none)) else (none))) else (none)) else (none))) else (some (⟨#[]⟩ : ByteArray)))
def hortatorref7_PutConfig.T3 : Bool × List (List Nat × List Nat) := (true, [([], []), ([0], [0]), ([1], [1]), ([2], [2]), ([3], [3]), ([], []), ([5], [5]), ([6, 2], [6]), ([4, 7], [4, 7]), ([8], [8]), ([], []), ([10], [10]), ([11, 7], [11]), ([9, 12], [9, 12]), ([13], [13]), ([], []), ([15], [15]), ([16, 12], [16]), ([14, 17], [14, 17]), ([18, 17, 0, 1, 2, 3, 4, 5, 6, 7, 8, 9, 10, 11, 12, 13, 14, 15, 16, 17, 18], [18])])
def hortatorref7_PutConfig.B3 : List Nat := [0, 1, 3, 7, 15, 0, 32, 103, 255, 511, 0, 1024, 3303, 8191, 16383, 0, 32768, 105703, 262143, 524287]
theorem hortatorref7_PutConfig.tab3 : rtab .any (opsOf Tryz.f30 3) = hortatorref7_PutConfig.T3 := by kernel_rfl
theorem hortatorref7_PutConfig.bits3 : waitsOk hortatorref7_PutConfig.T3.2 hortatorref7_PutConfig.B3 = true := by kernel_rfl
set_option maxHeartbeats 8000000 in
set_option maxRecDepth 100000 in
theorem hortatorref7_PutConfig.calls (k : Nat) (a0_0 : Int) (a0_1 : Int) (a0_2 : Int) (a0_3 : Int) (A0_4 : Option Addr) (c0_4 : Nat) (l0_4 : List Int) (r : ByteArray) (w : World) (hr0_4 : Kd.C (Kd.int .i64) w A0_4 l0_4.length l0_4) (hc0_4 : l0_4.length ≤ c0_4) (h : hortatorref7_PutConfig.f k a0_0 a0_1 a0_2 a0_3 l0_4 = some r) :
  Calls Tryz.prog 30 #[.agg #[.int .i64 a0_0, .int .i64 a0_1, .int .i64 a0_2, .int .i64 a0_3, .slice A0_4 l0_4.length c0_4]] w fun e w' => e = .returned (.string r) ∧ Below w.heap.size w w' := by
 have hu24 := Tryz.underlying24
 have HR0_4 := Aside0.mk hr0_4
 have HC0_4 := Aside0.mk hc0_4
 clear hr0_4 hc0_4
 have HB := Aside0.mk (Below.refl w.heap.size w)
 have H : ((hortatorref7_Config.f k a0_0 a0_1 a0_2 a0_3 l0_4).bind fun t176 => (if t176 = true then ((hortatorref7_digits.f k a0_0).bind fun t177 => (if 6 + t177.size ≤ 9223372036854775807 then (if ((⟨#[99, 111, 114, 101, 115, 32]⟩ : ByteArray) ++ t177).size + 7 ≤ 9223372036854775807 then ((hortatorref7_digits.f k a0_1).bind fun t178 => (if (((⟨#[99, 111, 114, 101, 115, 32]⟩ : ByteArray) ++ t177) ++ (⟨#[32, 115, 121, 110, 99, 115, 32]⟩ : ByteArray)).size + t178.size ≤ 9223372036854775807 then (if ((((⟨#[99, 111, 114, 101, 115, 32]⟩ : ByteArray) ++ t177) ++ (⟨#[32, 115, 121, 110, 99, 115, 32]⟩ : ByteArray)) ++ t178).size + 5 ≤ 9223372036854775807 then ((hortatorref7_digits.f k a0_2).bind fun t179 => (if (((((⟨#[99, 111, 114, 101, 115, 32]⟩ : ByteArray) ++ t177) ++ (⟨#[32, 115, 121, 110, 99, 115, 32]⟩ : ByteArray)) ++ t178) ++ (⟨#[32, 108, 97, 103, 32]⟩ : ByteArray)).size + t179.size ≤ 9223372036854775807 then (if ((((((⟨#[99, 111, 114, 101, 115, 32]⟩ : ByteArray) ++ t177) ++ (⟨#[32, 115, 121, 110, 99, 115, 32]⟩ : ByteArray)) ++ t178) ++ (⟨#[32, 108, 97, 103, 32]⟩ : ByteArray)) ++ t179).size + 6 ≤ 9223372036854775807 then ((hortatorref7_digits.f k a0_3).bind fun t180 => (if (((((((⟨#[99, 111, 114, 101, 115, 32]⟩ : ByteArray) ++ t177) ++ (⟨#[32, 115, 121, 110, 99, 115, 32]⟩ : ByteArray)) ++ t178) ++ (⟨#[32, 108, 97, 103, 32]⟩ : ByteArray)) ++ t179) ++ (⟨#[32, 109, 111, 118, 101, 32]⟩ : ByteArray)).size + t180.size ≤ 9223372036854775807 then (hortatorref7_PutConfig.l0 k ((((((((⟨#[99, 111, 114, 101, 115, 32]⟩ : ByteArray) ++ t177) ++ (⟨#[32, 115, 121, 110, 99, 115, 32]⟩ : ByteArray)) ++ t178) ++ (⟨#[32, 108, 97, 103, 32]⟩ : ByteArray)) ++ t179) ++ (⟨#[32, 109, 111, 118, 101, 32]⟩ : ByteArray)) ++ t180) 0 a0_0 a0_1 a0_2 a0_3 l0_4) else (none))) else (none)) else (none))) else (none)) else (none))) else (none)) else (none))) else (some (⟨#[]⟩ : ByteArray)))) = some r := h
 clear h
 replace H := Option.bind_eq_some_iff.mp H
 obtain ⟨t176, A20, H⟩ := H
 have A2 := Aside0.mk A20
 clear A20
 by_cases c3 : t176 = true
 ·subst c3
  have H1 : ((hortatorref7_digits.f k a0_0).bind fun t177 => (if 6 + t177.size ≤ 9223372036854775807 then (if ((⟨#[99, 111, 114, 101, 115, 32]⟩ : ByteArray) ++ t177).size + 7 ≤ 9223372036854775807 then ((hortatorref7_digits.f k a0_1).bind fun t178 => (if (((⟨#[99, 111, 114, 101, 115, 32]⟩ : ByteArray) ++ t177) ++ (⟨#[32, 115, 121, 110, 99, 115, 32]⟩ : ByteArray)).size + t178.size ≤ 9223372036854775807 then (if ((((⟨#[99, 111, 114, 101, 115, 32]⟩ : ByteArray) ++ t177) ++ (⟨#[32, 115, 121, 110, 99, 115, 32]⟩ : ByteArray)) ++ t178).size + 5 ≤ 9223372036854775807 then ((hortatorref7_digits.f k a0_2).bind fun t179 => (if (((((⟨#[99, 111, 114, 101, 115, 32]⟩ : ByteArray) ++ t177) ++ (⟨#[32, 115, 121, 110, 99, 115, 32]⟩ : ByteArray)) ++ t178) ++ (⟨#[32, 108, 97, 103, 32]⟩ : ByteArray)).size + t179.size ≤ 9223372036854775807 then (if ((((((⟨#[99, 111, 114, 101, 115, 32]⟩ : ByteArray) ++ t177) ++ (⟨#[32, 115, 121, 110, 99, 115, 32]⟩ : ByteArray)) ++ t178) ++ (⟨#[32, 108, 97, 103, 32]⟩ : ByteArray)) ++ t179).size + 6 ≤ 9223372036854775807 then ((hortatorref7_digits.f k a0_3).bind fun t180 => (if (((((((⟨#[99, 111, 114, 101, 115, 32]⟩ : ByteArray) ++ t177) ++ (⟨#[32, 115, 121, 110, 99, 115, 32]⟩ : ByteArray)) ++ t178) ++ (⟨#[32, 108, 97, 103, 32]⟩ : ByteArray)) ++ t179) ++ (⟨#[32, 109, 111, 118, 101, 32]⟩ : ByteArray)).size + t180.size ≤ 9223372036854775807 then (hortatorref7_PutConfig.l0 k ((((((((⟨#[99, 111, 114, 101, 115, 32]⟩ : ByteArray) ++ t177) ++ (⟨#[32, 115, 121, 110, 99, 115, 32]⟩ : ByteArray)) ++ t178) ++ (⟨#[32, 108, 97, 103, 32]⟩ : ByteArray)) ++ t179) ++ (⟨#[32, 109, 111, 118, 101, 32]⟩ : ByteArray)) ++ t180) 0 a0_0 a0_1 a0_2 a0_3 l0_4) else (none))) else (none)) else (none))) else (none)) else (none))) else (none)) else (none))) = some r := by rw [if_pos rfl] at H; exact H
  clear H
  have H := H1
  clear H1
  replace H := Option.bind_eq_some_iff.mp H
  obtain ⟨t177, A40, H⟩ := H
  have A4 := Aside0.mk A40
  clear A40
  by_cases c5 : 6 + t177.size ≤ 9223372036854775807
  ·rw [if_pos c5] at H
   have c5b0 := eq_true c5
   have c5b1 : decide (6 + t177.size ≤ 9223372036854775807) = true := decide_eq_true c5
   try have c5b2 : (9223372036854775807 < 6 + t177.size) = False := eq_false (Nat.not_lt.2 c5)
   by_cases c6 : ((⟨#[99, 111, 114, 101, 115, 32]⟩ : ByteArray) ++ t177).size + 7 ≤ 9223372036854775807
   ·rw [if_pos c6] at H
    have c6b0 := eq_true c6
    have c6b1 : decide (((⟨#[99, 111, 114, 101, 115, 32]⟩ : ByteArray) ++ t177).size + 7 ≤ 9223372036854775807) = true := decide_eq_true c6
    try have c6b2 : (9223372036854775807 < ((⟨#[99, 111, 114, 101, 115, 32]⟩ : ByteArray) ++ t177).size + 7) = False := eq_false (Nat.not_lt.2 c6)
    have c6b3 : (9223372036854775807 < 6 + t177.size + 7) = False := eq_false (by have h_ := c6; have e0_ : (⟨#[99, 111, 114, 101, 115, 32]⟩ : ByteArray).size = 6 := rfl; simp only [ByteArray.size_append] at h_; omega)
    replace H := Option.bind_eq_some_iff.mp H
    obtain ⟨t178, A70, H⟩ := H
    have A7 := Aside0.mk A70
    clear A70
    by_cases c8 : (((⟨#[99, 111, 114, 101, 115, 32]⟩ : ByteArray) ++ t177) ++ (⟨#[32, 115, 121, 110, 99, 115, 32]⟩ : ByteArray)).size + t178.size ≤ 9223372036854775807
    ·rw [if_pos c8] at H
     have c8b0 := eq_true c8
     have c8b1 : decide ((((⟨#[99, 111, 114, 101, 115, 32]⟩ : ByteArray) ++ t177) ++ (⟨#[32, 115, 121, 110, 99, 115, 32]⟩ : ByteArray)).size + t178.size ≤ 9223372036854775807) = true := decide_eq_true c8
     try have c8b2 : (9223372036854775807 < (((⟨#[99, 111, 114, 101, 115, 32]⟩ : ByteArray) ++ t177) ++ (⟨#[32, 115, 121, 110, 99, 115, 32]⟩ : ByteArray)).size + t178.size) = False := eq_false (Nat.not_lt.2 c8)
     have c8b3 : (9223372036854775807 < 6 + t177.size + 7 + t178.size) = False := eq_false (by have h_ := c8; have e0_ : (⟨#[32, 115, 121, 110, 99, 115, 32]⟩ : ByteArray).size = 7 := rfl; have e1_ : (⟨#[99, 111, 114, 101, 115, 32]⟩ : ByteArray).size = 6 := rfl; simp only [ByteArray.size_append] at h_; omega)
     by_cases c9 : ((((⟨#[99, 111, 114, 101, 115, 32]⟩ : ByteArray) ++ t177) ++ (⟨#[32, 115, 121, 110, 99, 115, 32]⟩ : ByteArray)) ++ t178).size + 5 ≤ 9223372036854775807
     ·rw [if_pos c9] at H
      have c9b0 := eq_true c9
      have c9b1 : decide (((((⟨#[99, 111, 114, 101, 115, 32]⟩ : ByteArray) ++ t177) ++ (⟨#[32, 115, 121, 110, 99, 115, 32]⟩ : ByteArray)) ++ t178).size + 5 ≤ 9223372036854775807) = true := decide_eq_true c9
      try have c9b2 : (9223372036854775807 < ((((⟨#[99, 111, 114, 101, 115, 32]⟩ : ByteArray) ++ t177) ++ (⟨#[32, 115, 121, 110, 99, 115, 32]⟩ : ByteArray)) ++ t178).size + 5) = False := eq_false (Nat.not_lt.2 c9)
      have c9b3 : (9223372036854775807 < 6 + t177.size + 7 + t178.size + 5) = False := eq_false (by have h_ := c9; have e0_ : (⟨#[32, 115, 121, 110, 99, 115, 32]⟩ : ByteArray).size = 7 := rfl; have e1_ : (⟨#[99, 111, 114, 101, 115, 32]⟩ : ByteArray).size = 6 := rfl; simp only [ByteArray.size_append] at h_; omega)
      replace H := Option.bind_eq_some_iff.mp H
      obtain ⟨t179, A100, H⟩ := H
      have A10 := Aside0.mk A100
      clear A100
      by_cases c11 : (((((⟨#[99, 111, 114, 101, 115, 32]⟩ : ByteArray) ++ t177) ++ (⟨#[32, 115, 121, 110, 99, 115, 32]⟩ : ByteArray)) ++ t178) ++ (⟨#[32, 108, 97, 103, 32]⟩ : ByteArray)).size + t179.size ≤ 9223372036854775807
      ·rw [if_pos c11] at H
       have c11b0 := eq_true c11
       have c11b1 : decide ((((((⟨#[99, 111, 114, 101, 115, 32]⟩ : ByteArray) ++ t177) ++ (⟨#[32, 115, 121, 110, 99, 115, 32]⟩ : ByteArray)) ++ t178) ++ (⟨#[32, 108, 97, 103, 32]⟩ : ByteArray)).size + t179.size ≤ 9223372036854775807) = true := decide_eq_true c11
       try have c11b2 : (9223372036854775807 < (((((⟨#[99, 111, 114, 101, 115, 32]⟩ : ByteArray) ++ t177) ++ (⟨#[32, 115, 121, 110, 99, 115, 32]⟩ : ByteArray)) ++ t178) ++ (⟨#[32, 108, 97, 103, 32]⟩ : ByteArray)).size + t179.size) = False := eq_false (Nat.not_lt.2 c11)
       have c11b3 : (9223372036854775807 < 6 + t177.size + 7 + t178.size + 5 + t179.size) = False := eq_false (by have h_ := c11; have e0_ : (⟨#[32, 108, 97, 103, 32]⟩ : ByteArray).size = 5 := rfl; have e1_ : (⟨#[32, 115, 121, 110, 99, 115, 32]⟩ : ByteArray).size = 7 := rfl; have e2_ : (⟨#[99, 111, 114, 101, 115, 32]⟩ : ByteArray).size = 6 := rfl; simp only [ByteArray.size_append] at h_; omega)
       by_cases c12 : ((((((⟨#[99, 111, 114, 101, 115, 32]⟩ : ByteArray) ++ t177) ++ (⟨#[32, 115, 121, 110, 99, 115, 32]⟩ : ByteArray)) ++ t178) ++ (⟨#[32, 108, 97, 103, 32]⟩ : ByteArray)) ++ t179).size + 6 ≤ 9223372036854775807
       ·rw [if_pos c12] at H
        have c12b0 := eq_true c12
        have c12b1 : decide (((((((⟨#[99, 111, 114, 101, 115, 32]⟩ : ByteArray) ++ t177) ++ (⟨#[32, 115, 121, 110, 99, 115, 32]⟩ : ByteArray)) ++ t178) ++ (⟨#[32, 108, 97, 103, 32]⟩ : ByteArray)) ++ t179).size + 6 ≤ 9223372036854775807) = true := decide_eq_true c12
        try have c12b2 : (9223372036854775807 < ((((((⟨#[99, 111, 114, 101, 115, 32]⟩ : ByteArray) ++ t177) ++ (⟨#[32, 115, 121, 110, 99, 115, 32]⟩ : ByteArray)) ++ t178) ++ (⟨#[32, 108, 97, 103, 32]⟩ : ByteArray)) ++ t179).size + 6) = False := eq_false (Nat.not_lt.2 c12)
        have c12b3 : (9223372036854775807 < 6 + t177.size + 7 + t178.size + 5 + t179.size + 6) = False := eq_false (by have h_ := c12; have e0_ : (⟨#[32, 108, 97, 103, 32]⟩ : ByteArray).size = 5 := rfl; have e1_ : (⟨#[32, 115, 121, 110, 99, 115, 32]⟩ : ByteArray).size = 7 := rfl; have e2_ : (⟨#[99, 111, 114, 101, 115, 32]⟩ : ByteArray).size = 6 := rfl; simp only [ByteArray.size_append] at h_; omega)
        replace H := Option.bind_eq_some_iff.mp H
        obtain ⟨t180, A130, H⟩ := H
        have A13 := Aside0.mk A130
        clear A130
        by_cases c14 : (((((((⟨#[99, 111, 114, 101, 115, 32]⟩ : ByteArray) ++ t177) ++ (⟨#[32, 115, 121, 110, 99, 115, 32]⟩ : ByteArray)) ++ t178) ++ (⟨#[32, 108, 97, 103, 32]⟩ : ByteArray)) ++ t179) ++ (⟨#[32, 109, 111, 118, 101, 32]⟩ : ByteArray)).size + t180.size ≤ 9223372036854775807
        ·rw [if_pos c14] at H
         have c14b0 := eq_true c14
         have c14b1 : decide ((((((((⟨#[99, 111, 114, 101, 115, 32]⟩ : ByteArray) ++ t177) ++ (⟨#[32, 115, 121, 110, 99, 115, 32]⟩ : ByteArray)) ++ t178) ++ (⟨#[32, 108, 97, 103, 32]⟩ : ByteArray)) ++ t179) ++ (⟨#[32, 109, 111, 118, 101, 32]⟩ : ByteArray)).size + t180.size ≤ 9223372036854775807) = true := decide_eq_true c14
         try have c14b2 : (9223372036854775807 < (((((((⟨#[99, 111, 114, 101, 115, 32]⟩ : ByteArray) ++ t177) ++ (⟨#[32, 115, 121, 110, 99, 115, 32]⟩ : ByteArray)) ++ t178) ++ (⟨#[32, 108, 97, 103, 32]⟩ : ByteArray)) ++ t179) ++ (⟨#[32, 109, 111, 118, 101, 32]⟩ : ByteArray)).size + t180.size) = False := eq_false (Nat.not_lt.2 c14)
         have c14b3 : (9223372036854775807 < 6 + t177.size + 7 + t178.size + 5 + t179.size + 6 + t180.size) = False := eq_false (by have h_ := c14; have e0_ : (⟨#[32, 108, 97, 103, 32]⟩ : ByteArray).size = 5 := rfl; have e1_ : (⟨#[32, 109, 111, 118, 101, 32]⟩ : ByteArray).size = 6 := rfl; have e2_ : (⟨#[32, 115, 121, 110, 99, 115, 32]⟩ : ByteArray).size = 7 := rfl; have e3_ : (⟨#[99, 111, 114, 101, 115, 32]⟩ : ByteArray).size = 6 := rfl; simp only [ByteArray.size_append] at h_; omega)
         have H' := Aside0.mk H
         clear H
         go_enter Tryz.func30, Tryz.ntmps30
         try go_wp2_with (first | ((with_reducible refine gate_dst (N := 1) rfl ?_); refine box_event ?hg (N := 1) ?hd (cs := #[.int .i64 a0_0, .int .i64 a0_1, .int .i64 a0_2, .int .i64 a0_3, .slice A0_4 l0_4.length c0_4]) (t := 24) ?hr ?_; (case hd => rfl); (case hg => rfl); (case hr => (go_simp; done)); intro gb175 hg w15 hbox hb; have BK175 := Aside0.mk (hbox); have GW175 := Aside0.mk ((by rw [hg]; exact below_size HB.out : w.heap.size ≤ gb175)); have GE175 := Aside0.mk ((by rw [hg]; exact below_size HB.out : w.heap.size ≤ gb175)); replace HB := Aside0.mk (below_step HB.out hb); clear hb hbox hg; have hcz16_0 : w15.cell? ⟨gb175, 0, none⟩ = some (.int .i64 a0_0) := (blk_cell BK175.out 0).trans rfl; have hcz16_1 : w15.cell? ⟨gb175, 1, none⟩ = some (.int .i64 a0_1) := (blk_cell BK175.out 1).trans rfl; have hcz16_2 : w15.cell? ⟨gb175, 2, none⟩ = some (.int .i64 a0_2) := (blk_cell BK175.out 2).trans rfl; have hcz16_3 : w15.cell? ⟨gb175, 3, none⟩ = some (.int .i64 a0_3) := (blk_cell BK175.out 3).trans rfl; have hcz16_4 : w15.cell? ⟨gb175, 4, none⟩ = some (.slice A0_4 l0_4.length c0_4) := (blk_cell BK175.out 4).trans rfl; have hfz16_0 := blk_frozen BK175.out 0; have hfz16_1 := blk_frozen BK175.out 1; have hfz16_2 := blk_frozen BK175.out 2; have hfz16_3 := blk_frozen BK175.out 3; have hfz16_4 := blk_frozen BK175.out 4) | ((with_reducible refine gate_callee (f := 17) rfl ?_); refine goesL_ (some 6) rfl rfl Tryz.func17 (by kernel_rfl) rfl #[.agg #[.int .i64 a0_0, .int .i64 a0_1, .int .i64 a0_2, .int .i64 a0_3, .slice A0_4 l0_4.length c0_4]] rfl (by (try simp only [List.map_toArray, List.map_cons, List.map_nil]); (rfl)) ?_; (with_reducible refine (hortatorref7_Config.calls k a0_0 a0_1 a0_2 a0_3 _ _ l0_4 true _ ?side1 ?side2 A2.out).mono ?_); (case side1 => repeat ((exact (Kd.C_below HR0_4.out HB.out)))); (case side2 => exact HC0_4.out); rintro e w17 ⟨rfl, hb⟩; refine ⟨_, rfl, ?_⟩; replace BK175 := Aside0.mk (blk_below BK175.out hb); replace HB := Aside0.mk (below_step HB.out hb); (try clear hb); (try clear hb2); (try clear hk); (try clear hi)))
         replace BK175 := Aside0.mk (blk_drew BK175.out)
         replace HB := Aside0.mk (below_drew1 HB.out)
         refine start_ (n := 20) (S := fun w' => w'.cell? ⟨gb175, 0, none⟩ = some (.int .i64 a0_0) ∧ w'.cell? ⟨gb175, 1, none⟩ = some (.int .i64 a0_1) ∧ w'.cell? ⟨gb175, 2, none⟩ = some (.int .i64 a0_2) ∧ w'.cell? ⟨gb175, 3, none⟩ = some (.int .i64 a0_3) ∧ w'.cell? ⟨gb175, 4, none⟩ = some (.slice A0_4 l0_4.length c0_4)) (ds := []) #[false, false, false, false, false, false, false, false, false, false, false, false, false, false, false, false, false, false, false, false] (by kernel_rfl) rfl rfl ⟨(blk_cell BK175.out 0).trans rfl, (blk_cell BK175.out 1).trans rfl, (blk_cell BK175.out 2).trans rfl, (blk_cell BK175.out 3).trans rfl, (blk_cell BK175.out 4).trans rfl⟩ (fun hHeld => ?_); refine with_tabW hortatorref7_PutConfig.tab3 hortatorref7_PutConfig.bits3 (fun HT_ HW_ => ?_)
         generalize w17.drew = w18 at BK175 HB hHeld ⊢
         refine pure_ (i := 0) (N := some 8) (v := ?_) (a' := ?_) #[true, false, false, false, false, false, false, false, false, false, false, false, false, false, false, false, false, false, false, false] rfl rfl (any_of HT_.out (by kernel_rfl)) (fun _ _ _ h => h) (Or.inl ⟨by rfl, ?_⟩) ?_ ?_
         rotate_left
         ·intro w'
          go_simp
          with_reducible rfl
         rotate_left
         ·simp only [Act.put, List.setIfInBounds_toArray, List.set_cons_zero, List.set_cons_succ, i64_w, i32_w]
          rfl
         refine pure_ (i := 5) (N := some 13) (v := ?_) (a' := ?_) #[true, false, false, false, false, true, false, false, false, false, false, false, false, false, false, false, false, false, false, false] rfl rfl (any_of HT_.out (by kernel_rfl)) (fun _ _ _ h => h) (Or.inl ⟨by rfl, ?_⟩) ?_ ?_
         rotate_left
         ·intro w'
          go_simp
          with_reducible rfl
         rotate_left
         ·simp only [Act.put, List.setIfInBounds_toArray, List.set_cons_zero, List.set_cons_succ, i64_w, i32_w]
          rfl
         refine pure_ (i := 10) (N := some 18) (v := ?_) (a' := ?_) #[true, false, false, false, false, true, false, false, false, false, true, false, false, false, false, false, false, false, false, false] rfl rfl (any_of HT_.out (by kernel_rfl)) (fun _ _ _ h => h) (Or.inl ⟨by rfl, ?_⟩) ?_ ?_
         rotate_left
         ·intro w'
          go_simp
          with_reducible rfl
         rotate_left
         ·simp only [Act.put, List.setIfInBounds_toArray, List.set_cons_zero, List.set_cons_succ, i64_w, i32_w]
          rfl
         refine pure_ (i := 15) (N := some 23) (v := ?_) (a' := ?_) #[true, false, false, false, false, true, false, false, false, false, true, false, false, false, false, true, false, false, false, false] rfl rfl (any_of HT_.out (by kernel_rfl)) (fun _ _ _ h => h) (Or.inl ⟨by rfl, ?_⟩) ?_ ?_
         rotate_left
         ·intro w'
          go_simp
          with_reducible rfl
         rotate_left
         ·simp only [Act.put, List.setIfInBounds_toArray, List.set_cons_zero, List.set_cons_succ, i64_w, i32_w]
          rfl
         refine take_ (i := 1) (N := some 9) (v := ?_) (a' := ?_) #[true, true, false, false, false, true, false, false, false, false, true, false, false, false, false, true, false, false, false, false] rfl rfl (take_ofW HT_.out HW_.out (by kernel_rfl)) (fun _ _ _ h => h) (Or.inl ⟨by rfl, ?_⟩) hHeld ?_ ?_
         rotate_left
         ·rintro w' ⟨s0, s1, s2, s3, s4⟩
          go_simp
          with_reducible rfl
         rotate_left
         ·simp only [Act.put, List.setIfInBounds_toArray, List.set_cons_zero, List.set_cons_succ, i64_w, i32_w]
          rfl
         refine take_ (i := 6) (N := some 14) (v := ?_) (a' := ?_) #[true, true, false, false, false, true, true, false, false, false, true, false, false, false, false, true, false, false, false, false] rfl rfl (take_ofW HT_.out HW_.out (by kernel_rfl)) (fun _ _ _ h => h) (Or.inl ⟨by rfl, ?_⟩) hHeld ?_ ?_
         rotate_left
         ·rintro w' ⟨s0, s1, s2, s3, s4⟩
          go_simp
          with_reducible rfl
         rotate_left
         ·simp only [Act.put, List.setIfInBounds_toArray, List.set_cons_zero, List.set_cons_succ, i64_w, i32_w]
          rfl
         refine take_ (i := 11) (N := some 19) (v := ?_) (a' := ?_) #[true, true, false, false, false, true, true, false, false, false, true, true, false, false, false, true, false, false, false, false] rfl rfl (take_ofW HT_.out HW_.out (by kernel_rfl)) (fun _ _ _ h => h) (Or.inl ⟨by rfl, ?_⟩) hHeld ?_ ?_
         rotate_left
         ·rintro w' ⟨s0, s1, s2, s3, s4⟩
          go_simp
          with_reducible rfl
         rotate_left
         ·simp only [Act.put, List.setIfInBounds_toArray, List.set_cons_zero, List.set_cons_succ, i64_w, i32_w]
          rfl
         refine take_ (i := 16) (N := some 24) (v := ?_) (a' := ?_) #[true, true, false, false, false, true, true, false, false, false, true, true, false, false, false, true, true, false, false, false] rfl rfl (take_ofW HT_.out HW_.out (by kernel_rfl)) (fun _ _ _ h => h) (Or.inl ⟨by rfl, ?_⟩) hHeld ?_ ?_
         rotate_left
         ·rintro w' ⟨s0, s1, s2, s3, s4⟩
          go_simp
          with_reducible rfl
         rotate_left
         ·simp only [Act.put, List.setIfInBounds_toArray, List.set_cons_zero, List.set_cons_succ, i64_w, i32_w]
          rfl
         refine one_ (i := 2) (N := some 10) #[true, true, true, false, false, true, true, false, false, false, true, true, false, false, false, true, true, false, false, false] rfl rfl (one_of HT_.out (by kernel_rfl)) (by decide) (fun K hK => ?_)
         refine goes_ Tryz.func48 (by kernel_rfl) rfl #[.int .i64 a0_0] (by rfl) rfl rfl (by (try simp only [List.map_toArray, List.map_cons, List.map_nil]); (rfl)) ?_
         with_reducible refine (hortatorref7_digits.calls k a0_0 t177 _ A4.out).mono ?_
         rintro e w19 ⟨rfl, hb⟩
         refine ⟨_, rfl, ?_⟩
         replace BK175 := Aside0.mk (blk_below BK175.out hb)
         replace HB := Aside0.mk (below_step HB.out hb)
         (try clear hb)
         (try clear hb2)
         (try clear hk)
         (try clear hi)
         refine hK.out _ _ ⟨(blk_cell BK175.out 0).trans rfl, (blk_cell BK175.out 1).trans rfl, (blk_cell BK175.out 2).trans rfl, (blk_cell BK175.out 3).trans rfl, (blk_cell BK175.out 4).trans rfl⟩ (fun hHeld => ?_)
         clear hK K
         refine norm_ (a' := ?_) ?_ ?_
         rotate_left
         ·show Act.put _ (some 10) _ = _
          simp only [Act.put, List.setIfInBounds_toArray, List.set_cons_zero, List.set_cons_succ, i64_w, i32_w]
          rfl
         refine pure_ (i := 3) (N := some 11) (v := ?_) (a' := ?_) #[true, true, true, true, false, true, true, false, false, false, true, true, false, false, false, true, true, false, false, false] rfl rfl (any_of HT_.out (by kernel_rfl)) (fun _ _ _ h => h) (Or.inl ⟨by rfl, ?_⟩) ?_ ?_
         rotate_left
         ·intro w'
          go_simp
          with_reducible rfl
         rotate_left
         ·simp only [Act.put, List.setIfInBounds_toArray, List.set_cons_zero, List.set_cons_succ, i64_w, i32_w]
          rfl
         refine pure_ (i := 4) (N := some 12) (v := ?_) (a' := ?_) #[true, true, true, true, true, true, true, false, false, false, true, true, false, false, false, true, true, false, false, false] rfl rfl (any_of HT_.out (by kernel_rfl)) (fun _ _ _ h => h) (Or.inl ⟨by rfl, ?_⟩) ?_ ?_
         rotate_left
         ·intro w'
          go_simp
          with_reducible rfl
         rotate_left
         ·simp only [Act.put, List.setIfInBounds_toArray, List.set_cons_zero, List.set_cons_succ, i64_w, i32_w]
          rfl
         refine one_ (i := 7) (N := some 15) #[true, true, true, true, true, true, true, true, false, false, true, true, false, false, false, true, true, false, false, false] rfl rfl (one_of HT_.out (by kernel_rfl)) (by decide) (fun K hK => ?_)
         refine goes_ Tryz.func48 (by kernel_rfl) rfl #[.int .i64 a0_1] (by rfl) rfl rfl (by (try simp only [List.map_toArray, List.map_cons, List.map_nil]); (rfl)) ?_
         with_reducible refine (hortatorref7_digits.calls k a0_1 t178 _ A7.out).mono ?_
         rintro e w20 ⟨rfl, hb⟩
         refine ⟨_, rfl, ?_⟩
         replace BK175 := Aside0.mk (blk_below BK175.out hb)
         replace HB := Aside0.mk (below_step HB.out hb)
         (try clear hb)
         (try clear hb2)
         (try clear hk)
         (try clear hi)
         refine hK.out _ _ ⟨(blk_cell BK175.out 0).trans rfl, (blk_cell BK175.out 1).trans rfl, (blk_cell BK175.out 2).trans rfl, (blk_cell BK175.out 3).trans rfl, (blk_cell BK175.out 4).trans rfl⟩ (fun hHeld => ?_)
         clear hK K
         refine norm_ (a' := ?_) ?_ ?_
         rotate_left
         ·show Act.put _ (some 15) _ = _
          simp only [Act.put, List.setIfInBounds_toArray, List.set_cons_zero, List.set_cons_succ, i64_w, i32_w]
          rfl
         refine pure_ (i := 8) (N := some 16) (v := ?_) (a' := ?_) #[true, true, true, true, true, true, true, true, true, false, true, true, false, false, false, true, true, false, false, false] rfl rfl (any_of HT_.out (by kernel_rfl)) (fun _ _ _ h => h) (Or.inl ⟨by rfl, ?_⟩) ?_ ?_
         rotate_left
         ·intro w'
          go_simp
          with_reducible rfl
         rotate_left
         ·simp only [Act.put, List.setIfInBounds_toArray, List.set_cons_zero, List.set_cons_succ, i64_w, i32_w]
          rfl
         refine pure_ (i := 9) (N := some 17) (v := ?_) (a' := ?_) #[true, true, true, true, true, true, true, true, true, true, true, true, false, false, false, true, true, false, false, false] rfl rfl (any_of HT_.out (by kernel_rfl)) (fun _ _ _ h => h) (Or.inl ⟨by rfl, ?_⟩) ?_ ?_
         rotate_left
         ·intro w'
          go_simp
          with_reducible rfl
         rotate_left
         ·simp only [Act.put, List.setIfInBounds_toArray, List.set_cons_zero, List.set_cons_succ, i64_w, i32_w]
          rfl
         refine one_ (i := 12) (N := some 20) #[true, true, true, true, true, true, true, true, true, true, true, true, true, false, false, true, true, false, false, false] rfl rfl (one_of HT_.out (by kernel_rfl)) (by decide) (fun K hK => ?_)
         refine goes_ Tryz.func48 (by kernel_rfl) rfl #[.int .i64 a0_2] (by rfl) rfl rfl (by (try simp only [List.map_toArray, List.map_cons, List.map_nil]); (rfl)) ?_
         with_reducible refine (hortatorref7_digits.calls k a0_2 t179 _ A10.out).mono ?_
         rintro e w21 ⟨rfl, hb⟩
         refine ⟨_, rfl, ?_⟩
         replace BK175 := Aside0.mk (blk_below BK175.out hb)
         replace HB := Aside0.mk (below_step HB.out hb)
         (try clear hb)
         (try clear hb2)
         (try clear hk)
         (try clear hi)
         refine hK.out _ _ ⟨(blk_cell BK175.out 0).trans rfl, (blk_cell BK175.out 1).trans rfl, (blk_cell BK175.out 2).trans rfl, (blk_cell BK175.out 3).trans rfl, (blk_cell BK175.out 4).trans rfl⟩ (fun hHeld => ?_)
         clear hK K
         refine norm_ (a' := ?_) ?_ ?_
         rotate_left
         ·show Act.put _ (some 20) _ = _
          simp only [Act.put, List.setIfInBounds_toArray, List.set_cons_zero, List.set_cons_succ, i64_w, i32_w]
          rfl
         refine pure_ (i := 13) (N := some 21) (v := ?_) (a' := ?_) #[true, true, true, true, true, true, true, true, true, true, true, true, true, true, false, true, true, false, false, false] rfl rfl (any_of HT_.out (by kernel_rfl)) (fun _ _ _ h => h) (Or.inl ⟨by rfl, ?_⟩) ?_ ?_
         rotate_left
         ·intro w'
          go_simp
          with_reducible rfl
         rotate_left
         ·simp only [Act.put, List.setIfInBounds_toArray, List.set_cons_zero, List.set_cons_succ, i64_w, i32_w]
          rfl
         refine pure_ (i := 14) (N := some 22) (v := ?_) (a' := ?_) #[true, true, true, true, true, true, true, true, true, true, true, true, true, true, true, true, true, false, false, false] rfl rfl (any_of HT_.out (by kernel_rfl)) (fun _ _ _ h => h) (Or.inl ⟨by rfl, ?_⟩) ?_ ?_
         rotate_left
         ·intro w'
          go_simp
          with_reducible rfl
         rotate_left
         ·simp only [Act.put, List.setIfInBounds_toArray, List.set_cons_zero, List.set_cons_succ, i64_w, i32_w]
          rfl
         refine one_ (i := 17) (N := some 25) #[true, true, true, true, true, true, true, true, true, true, true, true, true, true, true, true, true, true, false, false] rfl rfl (one_of HT_.out (by kernel_rfl)) (by decide) (fun K hK => ?_)
         refine goes_ Tryz.func48 (by kernel_rfl) rfl #[.int .i64 a0_3] (by rfl) rfl rfl (by (try simp only [List.map_toArray, List.map_cons, List.map_nil]); (rfl)) ?_
         with_reducible refine (hortatorref7_digits.calls k a0_3 t180 _ A13.out).mono ?_
         rintro e w22 ⟨rfl, hb⟩
         refine ⟨_, rfl, ?_⟩
         replace BK175 := Aside0.mk (blk_below BK175.out hb)
         replace HB := Aside0.mk (below_step HB.out hb)
         (try clear hb)
         (try clear hb2)
         (try clear hk)
         (try clear hi)
         refine hK.out _ _ ⟨(blk_cell BK175.out 0).trans rfl, (blk_cell BK175.out 1).trans rfl, (blk_cell BK175.out 2).trans rfl, (blk_cell BK175.out 3).trans rfl, (blk_cell BK175.out 4).trans rfl⟩ (fun hHeld => ?_)
         clear hK K
         refine norm_ (a' := ?_) ?_ ?_
         rotate_left
         ·show Act.put _ (some 25) _ = _
          simp only [Act.put, List.setIfInBounds_toArray, List.set_cons_zero, List.set_cons_succ, i64_w, i32_w]
          rfl
         refine pure_ (i := 18) (N := some 26) (v := ?_) (a' := ?_) #[true, true, true, true, true, true, true, true, true, true, true, true, true, true, true, true, true, true, true, false] rfl rfl (any_of HT_.out (by kernel_rfl)) (fun _ _ _ h => h) (Or.inl ⟨by rfl, ?_⟩) ?_ ?_
         rotate_left
         ·intro w'
          go_simp
          with_reducible rfl
         rotate_left
         ·simp only [Act.put, List.setIfInBounds_toArray, List.set_cons_zero, List.set_cons_succ, i64_w, i32_w]
          rfl
         refine pure_ (i := 19) (N := some 3) (v := ?_) (a' := ?_) #[true, true, true, true, true, true, true, true, true, true, true, true, true, true, true, true, true, true, true, true] rfl rfl (any_of HT_.out (by kernel_rfl)) (fun _ _ _ h => h) (Or.inl ⟨by rfl, ?_⟩) ?_ ?_
         rotate_left
         ·intro w'
          go_simp
          with_reducible rfl
         rotate_left
         ·simp only [Act.put, List.setIfInBounds_toArray, List.set_cons_zero, List.set_cons_succ, i64_w, i32_w]
          rfl
         refine done_ (done_of HT_.out (by kernel_rfl)) ?_
         try go_wp2
         go_loopg [3, 4] k (fun kq v3 v4 w' => ∃ (x3_1 : ByteArray) (x4_1 : Int), v3 = .string x3_1 ∧ v4 = .int .i64 x4_1 ∧ Aside0 (hortatorref7_PutConfig.l0 kq x3_1 x4_1 a0_0 a0_1 a0_2 a0_3 l0_4 = some r) ∧ Aside0 (kq ≤ k) ∧ Aside0 (w'.heap[gb175]? = some (.cells #[.int .i64 a0_0, .int .i64 a0_1, .int .i64 a0_2, .int .i64 a0_3, (.slice A0_4 l0_4.length c0_4)] 24 (0, 0))) ∧ Aside0 (Below w.heap.size w w'))
         case atStart => exact ⟨((((((((⟨#[99, 111, 114, 101, 115, 32]⟩ : ByteArray) ++ t177) ++ (⟨#[32, 115, 121, 110, 99, 115, 32]⟩ : ByteArray)) ++ t178) ++ (⟨#[32, 108, 97, 103, 32]⟩ : ByteArray)) ++ t179) ++ (⟨#[32, 109, 111, 118, 101, 32]⟩ : ByteArray)) ++ t180), (0), (by (rfl)), (by (rfl)), H', ⟨Nat.le_refl _⟩, ⟨BK175.out⟩, ⟨HB.out⟩⟩
         case round =>
          clear H'
          try clear c5
          try clear c5b0
          try clear c5b1
          try clear c5b2
          try clear c6
          try clear c6b0
          try clear c6b1
          try clear c6b2
          try clear c8
          try clear c8b0
          try clear c8b1
          try clear c8b2
          try clear c9
          try clear c9b0
          try clear c9b1
          try clear c9b2
          try clear c11
          try clear c11b0
          try clear c11b1
          try clear c11b2
          try clear c12
          try clear c12b0
          try clear c12b1
          try clear c12b2
          try clear c14
          try clear c14b0
          try clear c14b1
          try clear c14b2
          try clear hcz16_0
          try clear hcz16_1
          try clear hcz16_2
          try clear hcz16_3
          try clear hcz16_4
          try clear hfz16_0
          try clear hfz16_1
          try clear hfz16_2
          try clear hfz16_3
          try clear hfz16_4
          obtain ⟨x3_1, x4_1, rfl, rfl, HA, HK1, BK175, HB⟩ := hrel
          cases gk with
          | zero => exact absurd HA.out (by simp [hortatorref7_PutConfig.l0])
          | succ k1 =>
           have H := HA.out
           clear HA
           simp only [hortatorref7_PutConfig.l0] at H
           by_cases c23 : x4_1 < (l0_4.length : Int)
           ·rw [if_pos c23] at H
            have c23b0 : decide (x4_1 < (l0_4.length : Int)) = true := decide_eq_true c23
            clear c23
            by_cases c24 : x4_1 = 0
            ·rw [if_pos c24] at H
             have c24b0 : (x4_1 == 0) = true := beq_iff_eq.mpr c24
             have c24b1 : (x4_1 != 0) = false := bne_eq_false_iff_eq.mpr c24
             clear c24
             by_cases c25 : x3_1.size + 4 ≤ 9223372036854775807
             ·rw [if_pos c25] at H
              have c25b0 := eq_true c25
              have c25b1 : decide (x3_1.size + 4 ≤ 9223372036854775807) = true := decide_eq_true c25
              try have c25b2 : (9223372036854775807 < x3_1.size + 4) = False := eq_false (Nat.not_lt.2 c25)
              by_cases c26 : 0 ≤ x4_1
              ·rw [if_pos c26] at H
               have c26b0 : decide (0 ≤ x4_1) = true := decide_eq_true c26
               clear c26
               replace H := Option.bind_eq_some_iff.mp H
               obtain ⟨t182, A270, H⟩ := H
               have A27 := Aside0.mk A270
               clear A270
               by_cases c28 : 1 + t182.size ≤ 9223372036854775807
               ·rw [if_pos c28] at H
                have c28b0 := eq_true c28
                have c28b1 : decide (1 + t182.size ≤ 9223372036854775807) = true := decide_eq_true c28
                try have c28b2 : (9223372036854775807 < 1 + t182.size) = False := eq_false (Nat.not_lt.2 c28)
                by_cases c29 : (x3_1 ++ (⟨#[32, 114, 101, 115]⟩ : ByteArray)).size + ((⟨#[32]⟩ : ByteArray) ++ t182).size ≤ 9223372036854775807
                ·rw [if_pos c29] at H
                 have c29b0 := eq_true c29
                 have c29b1 : decide ((x3_1 ++ (⟨#[32, 114, 101, 115]⟩ : ByteArray)).size + ((⟨#[32]⟩ : ByteArray) ++ t182).size ≤ 9223372036854775807) = true := decide_eq_true c29
                 try have c29b2 : (9223372036854775807 < (x3_1 ++ (⟨#[32, 114, 101, 115]⟩ : ByteArray)).size + ((⟨#[32]⟩ : ByteArray) ++ t182).size) = False := eq_false (Nat.not_lt.2 c29)
                 have c29b3 : (9223372036854775807 < x3_1.size + 4 + (1 + t182.size)) = False := eq_false (by have h_ := c29; have e0_ : (⟨#[32, 114, 101, 115]⟩ : ByteArray).size = 4 := rfl; have e1_ : (⟨#[32]⟩ : ByteArray).size = 1 := rfl; simp only [ByteArray.size_append] at h_; omega)
                 have H' := Aside0.mk H
                 clear H
                 have hcz30_0 : wr.cell? ⟨gb175, 0, none⟩ = some (.int .i64 a0_0) := (blk_cell BK175.out 0).trans rfl
                 have hcz30_1 : wr.cell? ⟨gb175, 1, none⟩ = some (.int .i64 a0_1) := (blk_cell BK175.out 1).trans rfl
                 have hcz30_2 : wr.cell? ⟨gb175, 2, none⟩ = some (.int .i64 a0_2) := (blk_cell BK175.out 2).trans rfl
                 have hcz30_3 : wr.cell? ⟨gb175, 3, none⟩ = some (.int .i64 a0_3) := (blk_cell BK175.out 3).trans rfl
                 have hcz30_4 : wr.cell? ⟨gb175, 4, none⟩ = some (.slice A0_4 l0_4.length c0_4) := (blk_cell BK175.out 4).trans rfl
                 have hfz30_0 := blk_frozen BK175.out 0
                 have hfz30_1 := blk_frozen BK175.out 1
                 have hfz30_2 := blk_frozen BK175.out 2
                 have hfz30_3 := blk_frozen BK175.out 3
                 have hfz30_4 := blk_frozen BK175.out 4
                 have p181 : 0 ≤ (x4_1 : Int) := of_decide_eq_true (by (with_reducible assumption))
                 have q181 : x4_1 < (l0_4.length : Int) := of_decide_eq_true (by (with_reducible assumption))
                 obtain ⟨ad181, e181, hx181_0⟩ := Kd.at_int HR0_4.out x4_1 p181 q181
                 cases e181
                 replace hx181_0 := (HB.out.cell (World.block_lt_of_cell? w _ hx181_0)).trans hx181_0
                 replace p181 := eq_true p181
                 replace q181 := eq_true q181
                 go_wp2_with (((with_reducible refine gate_callee (f := 48) rfl ?_); refine goesL_ (some 44) rfl rfl Tryz.func48 (by kernel_rfl) rfl #[.int .i64 (rd l0_4 x4_1)] rfl (by (try simp only [List.map_toArray, List.map_cons, List.map_nil]); (rfl)) ?_; (with_reducible refine (hortatorref7_digits.calls k1 (rd l0_4 x4_1) t182 _ A27.out).mono ?_); rintro e w31 ⟨rfl, hb⟩; refine ⟨_, rfl, ?_⟩; replace BK175 := Aside0.mk (blk_below BK175.out hb); replace HB := Aside0.mk (below_step HB.out hb); (try clear hb); (try clear hb2); (try clear hk); (try clear hi)))
                 go_roundg k1
                 case measure => have := HK1.out; omega
                 case rel => exact ⟨((x3_1 ++ (⟨#[32, 114, 101, 115]⟩ : ByteArray)) ++ ((⟨#[32]⟩ : ByteArray) ++ t182)), (wrap64 (x4_1 + 1)), (by (rfl)), (by (rfl)), H', ⟨by have := HK1.out; omega⟩, ⟨BK175.out⟩, ⟨HB.out⟩⟩
                ·rw [if_neg c29] at H
                 exact absurd H (by simp)
               ·rw [if_neg c28] at H
                exact absurd H (by simp)
              ·rw [if_neg c26] at H
               exact absurd H (by simp)
             ·rw [if_neg c25] at H
              exact absurd H (by simp)
            ·rw [if_neg c24] at H
             have c24b0 : (x4_1 == 0) = false := beq_eq_false_iff_ne.mpr c24
             have c24b1 : (x4_1 != 0) = true := bne_iff_ne.mpr c24
             by_cases c32 : 0 ≤ x4_1
             ·rw [if_pos c32] at H
              have c32b0 : decide (0 ≤ x4_1) = true := decide_eq_true c32
              clear c32
              replace H := Option.bind_eq_some_iff.mp H
              obtain ⟨t184, A330, H⟩ := H
              have A33 := Aside0.mk A330
              clear A330
              by_cases c34 : 1 + t184.size ≤ 9223372036854775807
              ·rw [if_pos c34] at H
               have c34b0 := eq_true c34
               have c34b1 : decide (1 + t184.size ≤ 9223372036854775807) = true := decide_eq_true c34
               try have c34b2 : (9223372036854775807 < 1 + t184.size) = False := eq_false (Nat.not_lt.2 c34)
               by_cases c35 : x3_1.size + ((⟨#[32]⟩ : ByteArray) ++ t184).size ≤ 9223372036854775807
               ·rw [if_pos c35] at H
                have c35b0 := eq_true c35
                have c35b1 : decide (x3_1.size + ((⟨#[32]⟩ : ByteArray) ++ t184).size ≤ 9223372036854775807) = true := decide_eq_true c35
                try have c35b2 : (9223372036854775807 < x3_1.size + ((⟨#[32]⟩ : ByteArray) ++ t184).size) = False := eq_false (Nat.not_lt.2 c35)
                have c35b3 : (9223372036854775807 < x3_1.size + (1 + t184.size)) = False := eq_false (by have h_ := c35; have e0_ : (⟨#[32]⟩ : ByteArray).size = 1 := rfl; simp only [ByteArray.size_append] at h_; omega)
                have H' := Aside0.mk H
                clear H
                have hcz36_0 : wr.cell? ⟨gb175, 0, none⟩ = some (.int .i64 a0_0) := (blk_cell BK175.out 0).trans rfl
                have hcz36_1 : wr.cell? ⟨gb175, 1, none⟩ = some (.int .i64 a0_1) := (blk_cell BK175.out 1).trans rfl
                have hcz36_2 : wr.cell? ⟨gb175, 2, none⟩ = some (.int .i64 a0_2) := (blk_cell BK175.out 2).trans rfl
                have hcz36_3 : wr.cell? ⟨gb175, 3, none⟩ = some (.int .i64 a0_3) := (blk_cell BK175.out 3).trans rfl
                have hcz36_4 : wr.cell? ⟨gb175, 4, none⟩ = some (.slice A0_4 l0_4.length c0_4) := (blk_cell BK175.out 4).trans rfl
                have hfz36_0 := blk_frozen BK175.out 0
                have hfz36_1 := blk_frozen BK175.out 1
                have hfz36_2 := blk_frozen BK175.out 2
                have hfz36_3 := blk_frozen BK175.out 3
                have hfz36_4 := blk_frozen BK175.out 4
                have p183 : 0 ≤ (x4_1 : Int) := of_decide_eq_true (by (with_reducible assumption))
                have q183 : x4_1 < (l0_4.length : Int) := of_decide_eq_true (by (with_reducible assumption))
                obtain ⟨ad183, e183, hx183_0⟩ := Kd.at_int HR0_4.out x4_1 p183 q183
                cases e183
                replace hx183_0 := (HB.out.cell (World.block_lt_of_cell? w _ hx183_0)).trans hx183_0
                replace p183 := eq_true p183
                replace q183 := eq_true q183
                go_wp2_with (((with_reducible refine gate_callee (f := 48) rfl ?_); refine goesL_ (some 44) rfl rfl Tryz.func48 (by kernel_rfl) rfl #[.int .i64 (rd l0_4 x4_1)] rfl (by (try simp only [List.map_toArray, List.map_cons, List.map_nil]); (rfl)) ?_; (with_reducible refine (hortatorref7_digits.calls k1 (rd l0_4 x4_1) t184 _ A33.out).mono ?_); rintro e w37 ⟨rfl, hb⟩; refine ⟨_, rfl, ?_⟩; replace BK175 := Aside0.mk (blk_below BK175.out hb); replace HB := Aside0.mk (below_step HB.out hb); (try clear hb); (try clear hb2); (try clear hk); (try clear hi)))
                go_roundg k1
                case measure => have := HK1.out; omega
                case rel => exact ⟨(x3_1 ++ ((⟨#[32]⟩ : ByteArray) ++ t184)), (wrap64 (x4_1 + 1)), (by (rfl)), (by (rfl)), H', ⟨by have := HK1.out; omega⟩, ⟨BK175.out⟩, ⟨HB.out⟩⟩
               ·rw [if_neg c35] at H
                exact absurd H (by simp)
              ·rw [if_neg c34] at H
               exact absurd H (by simp)
             ·rw [if_neg c32] at H
              exact absurd H (by simp)
           ·rw [if_neg c23] at H
            have c23b0 : decide (x4_1 < (l0_4.length : Int)) = false := decide_eq_false c23
            clear c23
            obtain rfl := Option.some.inj H
            have hcz38_0 : wr.cell? ⟨gb175, 0, none⟩ = some (.int .i64 a0_0) := (blk_cell BK175.out 0).trans rfl
            have hcz38_1 : wr.cell? ⟨gb175, 1, none⟩ = some (.int .i64 a0_1) := (blk_cell BK175.out 1).trans rfl
            have hcz38_2 : wr.cell? ⟨gb175, 2, none⟩ = some (.int .i64 a0_2) := (blk_cell BK175.out 2).trans rfl
            have hcz38_3 : wr.cell? ⟨gb175, 3, none⟩ = some (.int .i64 a0_3) := (blk_cell BK175.out 3).trans rfl
            have hcz38_4 : wr.cell? ⟨gb175, 4, none⟩ = some (.slice A0_4 l0_4.length c0_4) := (blk_cell BK175.out 4).trans rfl
            have hfz38_0 := blk_frozen BK175.out 0
            have hfz38_1 := blk_frozen BK175.out 1
            have hfz38_2 := blk_frozen BK175.out 2
            have hfz38_3 := blk_frozen BK175.out 3
            have hfz38_4 := blk_frozen BK175.out 4
            go_wp2
            go_ret
            exact ⟨by (rfl), by repeat ((with_reducible (exact HB.out)))⟩
        ·rw [if_neg c14] at H
         exact absurd H (by simp)
       ·rw [if_neg c12] at H
        exact absurd H (by simp)
      ·rw [if_neg c11] at H
       exact absurd H (by simp)
     ·rw [if_neg c9] at H
      exact absurd H (by simp)
    ·rw [if_neg c8] at H
     exact absurd H (by simp)
   ·rw [if_neg c6] at H
    exact absurd H (by simp)
  ·rw [if_neg c5] at H
   exact absurd H (by simp)
 ·replace c3 := Bool.eq_false_iff.mpr c3
  subst c3
  have H1 : (some (⟨#[]⟩ : ByteArray)) = some r := by rw [if_neg (show ¬ (false = true) by decide)] at H; exact H
  clear H
  have H := H1
  clear H1
  obtain rfl := Option.some.inj H
  go_enter Tryz.func30, Tryz.ntmps30
  go_wp2_with (first | ((with_reducible refine gate_dst (N := 1) rfl ?_); refine box_event ?hg (N := 1) ?hd (cs := #[.int .i64 a0_0, .int .i64 a0_1, .int .i64 a0_2, .int .i64 a0_3, .slice A0_4 l0_4.length c0_4]) (t := 24) ?hr ?_; (case hd => rfl); (case hg => rfl); (case hr => (go_simp; done)); intro gb175 hg w39 hbox hb; have BK175 := Aside0.mk (hbox); have GW175 := Aside0.mk ((by rw [hg]; exact below_size HB.out : w.heap.size ≤ gb175)); have GE175 := Aside0.mk ((by rw [hg]; exact below_size HB.out : w.heap.size ≤ gb175)); replace HB := Aside0.mk (below_step HB.out hb); clear hb hbox hg; have hcz40_0 : w39.cell? ⟨gb175, 0, none⟩ = some (.int .i64 a0_0) := (blk_cell BK175.out 0).trans rfl; have hcz40_1 : w39.cell? ⟨gb175, 1, none⟩ = some (.int .i64 a0_1) := (blk_cell BK175.out 1).trans rfl; have hcz40_2 : w39.cell? ⟨gb175, 2, none⟩ = some (.int .i64 a0_2) := (blk_cell BK175.out 2).trans rfl; have hcz40_3 : w39.cell? ⟨gb175, 3, none⟩ = some (.int .i64 a0_3) := (blk_cell BK175.out 3).trans rfl; have hcz40_4 : w39.cell? ⟨gb175, 4, none⟩ = some (.slice A0_4 l0_4.length c0_4) := (blk_cell BK175.out 4).trans rfl; have hfz40_0 := blk_frozen BK175.out 0; have hfz40_1 := blk_frozen BK175.out 1; have hfz40_2 := blk_frozen BK175.out 2; have hfz40_3 := blk_frozen BK175.out 3; have hfz40_4 := blk_frozen BK175.out 4) | ((with_reducible refine gate_callee (f := 17) rfl ?_); refine goesL_ (some 6) rfl rfl Tryz.func17 (by kernel_rfl) rfl #[.agg #[.int .i64 a0_0, .int .i64 a0_1, .int .i64 a0_2, .int .i64 a0_3, .slice A0_4 l0_4.length c0_4]] rfl (by (try simp only [List.map_toArray, List.map_cons, List.map_nil]); (rfl)) ?_; (with_reducible refine (hortatorref7_Config.calls k a0_0 a0_1 a0_2 a0_3 _ _ l0_4 false _ ?side1 ?side2 A2.out).mono ?_); (case side1 => repeat ((exact (Kd.C_below HR0_4.out HB.out)))); (case side2 => exact HC0_4.out); rintro e w41 ⟨rfl, hb⟩; refine ⟨_, rfl, ?_⟩; replace BK175 := Aside0.mk (blk_below BK175.out hb); replace HB := Aside0.mk (below_step HB.out hb); (try clear hb); (try clear hb2); (try clear hk); (try clear hi)))
  go_ret
  exact ⟨by (rfl), by repeat ((with_reducible (exact HB.out)))⟩
end Go.Proofs.YtjjlicancbmjiaaGreatDoor.PBeg
