-- Written by a program of this session (wip/pp.py) over the kit's print, with hand-proved contracts beside it.
import Derived.Test.YtddepomgaeadpaaGreatDoorWz
import Derived.Test.YtddepomgaeadpaaGreatDoorPBegx0
import Derived.Test.YtddepomgaeadpaaGreatDoorPBegx3
import Derived.Test.YtddepomgaeadpaaGreatDoorPBegx5
import Derived.Test.YtddepomgaeadpaaGreatDoorPBegx6
import Derived.Test.YtddepomgaeadpaaGreatDoorPBegx7
import Derived.Test.YtddepomgaeadpaaGreatDoorPBegx9
namespace Go.Proofs.YtddepomgaeadpaaGreatDoor.PBeg
open Go.Shelf Go.Lib Go.RowKit Go.Proofs.YtddepomgaeadpaaGreatDoorW.PrintWords Go.Proofs.YtddepomgaeadpaaGreatDoorW.PrintLast Go.Proofs.YtddepomgaeadpaaGreatDoorW.PrintMore
attribute [local go_sem] max2_int min2_int max_two min_two max_three min_three max_four min_four   -- for this text's walks alone
set_option linter.unusedVariables false
set_option linter.unusedSimpArgs false

/-! ### note_GetTask: function 62 -/
def note_GetTask.l0 : Nat → ByteArray → List ByteArray → Int → Int → Int → Int → Int → Int → List Int → Int → Int → Int → List (S59) → Option (Int × Int × Int × (List (S59)) × Int)
 | 0, _, _, _, _, _, _, _, _, _, _, _, _, _ => none
 | k + 1, x1, x41, x42, x43, x172000, x172001, x172002, x172003, x172004, x187000, x187001, x187002, x187003 => if x43 < x42 then (if 0 ≤ x43 then (if x43 < (x41.length : Int) then ((strings_Cut.f (rdOf ByteArray.empty x41 x43) (⟨#[64]⟩ : ByteArray)).bind fun bt193 => ((strings_Cut.f bt193.2.1 (⟨#[43]⟩ : ByteArray)).bind fun bt196 => ((note_parse.f bt193.1).bind fun t199 => ((note_parse.f bt196.1).bind fun t200 => ((note_parse.f bt196.2.1).bind fun t201 => (if x187003.length < 5864062014805 then (note_GetTask.l0 k x1 x41 x42 (wrap64 (x43 + 1)) x172000 x172001 x172002 x172003 x172004 x187000 x187001 x187002 (x187003 ++ [(⟨t199, t200, t201⟩ : S59)])) else (none))))))) else (none)) else (none)) else ((rule_Config.f x172000 x172001 x172002 x172003 x172004).bind fun t205 => (if t205 = true then ((rule_Task.f k x172000 x172001 x172002 x172003 x172004 x187000 x187001 x187002 x187003).bind fun t206 => (if t206 = true then ((note_PutTask.f k x187000 x187001 x187002 x187003).bind fun t207 => (if t207.toList = x1.toList then (some (x187000, x187001, x187002, x187003, 0)) else (some (0, 0, 0, ([] : List (S59)), 1)))) else (some (0, 0, 0, ([] : List (S59)), 1)))) else (some (0, 0, 0, ([] : List (S59)), 1))))
def note_GetTask.f (k : Nat) (a0_0 : Int) (a0_1 : Int) (a0_2 : Int) (a0_3 : Int) (l0_4 : List Int) (a1 : ByteArray) : Option (Int × Int × Int × (List (S59)) × Int) := (strings_Split.f a1 (⟨#[32]⟩ : ByteArray)).bind fun t173 => (if 0 < (t173.length : Int) then ((strings_Split.f (rdOf ByteArray.empty t173 0) (⟨#[47]⟩ : ByteArray)).bind fun t177 => (if (t177.length : Int) = 3 then (if 0 < (t177.length : Int) then ((note_parse.f (rdOf ByteArray.empty t177 0)).bind fun t181 => (if 1 < (t177.length : Int) then ((note_parse.f (rdOf ByteArray.empty t177 1)).bind fun t183 => (if 2 < (t177.length : Int) then ((note_parse.f (rdOf ByteArray.empty t177 2)).bind fun t185 => (if 1 ≤ (t173.length : Int) then ((some (t173.drop 1 : List ByteArray)).bind fun y187 => (note_GetTask.l0 k a1 y187 (y187.length : Int) 0 a0_0 a0_1 a0_2 a0_3 l0_4 t181 t183 t185 ([] : List (S59)))) else (none))) else (none))) else (none))) else (none)) else (some (0, 0, 0, ([] : List (S59)), 1)))) else (none))
def note_GetTask.T5 : Bool × List (List Nat × List Nat) := (true, [([], []), ([0], [0]), ([1], [1]), ([2], [2]), ([], []), ([4], [4]), ([5], [5]), ([6, 3], [6]), ([], []), ([8], [8]), ([9], [9]), ([10, 7], [10]), ([3, 7, 11], [3, 7, 11]), ([], []), ([13, 12, 11, 0, 1, 2, 3, 4, 5, 6, 7, 8, 9, 10, 11, 12, 13], [12, 13])])
def note_GetTask.B5 : List Nat := [0, 1, 3, 7, 0, 16, 48, 127, 0, 256, 768, 2047, 4095, 0, 16383]
theorem note_GetTask.tab5 : rtab .any (opsOf Tryz.f62 5) = note_GetTask.T5 := by kernel_rfl
theorem note_GetTask.bits5 : waitsOk note_GetTask.T5.2 note_GetTask.B5 = true := by kernel_rfl
def note_GetTask.T11 : Bool × List (List Nat × List Nat) := (true, [([], []), ([0], [0]), ([], []), ([2], [2]), ([], []), ([4, 3], [4]), ([], []), ([6, 5], [6]), ([3, 5, 7], [3, 5, 7]), ([8], [8]), ([1, 9, 7], [1, 9]), ([0, 1, 2, 3, 4, 5, 6, 7, 8, 9, 10], []), ([11, 10, 10, 0, 1, 2, 3, 4, 5, 6, 7, 8, 9, 10], [10, 11])])
def note_GetTask.B11 : List Nat := [0, 1, 0, 4, 0, 28, 0, 124, 252, 508, 1023, 2047, 4095]
theorem note_GetTask.tab11 : rtab .any (opsOf Tryz.f62 11) = note_GetTask.T11 := by kernel_rfl
theorem note_GetTask.bits11 : waitsOk note_GetTask.T11.2 note_GetTask.B11 = true := by kernel_rfl
set_option maxHeartbeats 8000000 in
set_option maxRecDepth 100000 in
theorem note_GetTask.calls (k : Nat) (a0_0 : Int) (a0_1 : Int) (a0_2 : Int) (a0_3 : Int) (A0_4 : Option Addr) (c0_4 : Nat) (l0_4 : List Int) (a1 : ByteArray) (r1 : Int) (r2 : Int) (r3 : Int) (r4 : List (S59)) (r5 : Int) (w : World) (hr0_4 : Kd.C (Kd.int .i64) w A0_4 l0_4.length l0_4) (hc0_4 : l0_4.length ≤ c0_4) (h : note_GetTask.f k a0_0 a0_1 a0_2 a0_3 l0_4 a1 = some (r1, r2, r3, r4, r5)) :
  Calls Tryz.prog 62 #[.agg #[.int .i64 a0_0, .int .i64 a0_1, .int .i64 a0_2, .int .i64 a0_3, .slice A0_4 l0_4.length c0_4], .string a1] w fun e w' => ∃ v3_ : Value, e = .returned (.tuple #[.agg #[.int .i64 r1, .int .i64 r2, .int .i64 r3, v3_], .int .i64 r5]) ∧ Kd.R k59 59 w' w.heap.size (fun _ => True) v3_ r4 ∧ Below w.heap.size w w' := by
 have hu57 := Tryz.underlying57
 have hu62 := Tryz.underlying62
 have hu59 := Tryz.underlying59
 have HR0_4 := Aside0.mk hr0_4
 have HC0_4 := Aside0.mk hc0_4
 clear hr0_4 hc0_4
 have HB := Aside0.mk (Below.refl w.heap.size w)
 have H : ((strings_Split.f a1 (⟨#[32]⟩ : ByteArray)).bind fun t173 => (if 0 < (t173.length : Int) then ((strings_Split.f (rdOf ByteArray.empty t173 0) (⟨#[47]⟩ : ByteArray)).bind fun t177 => (if (t177.length : Int) = 3 then (if 0 < (t177.length : Int) then ((note_parse.f (rdOf ByteArray.empty t177 0)).bind fun t181 => (if 1 < (t177.length : Int) then ((note_parse.f (rdOf ByteArray.empty t177 1)).bind fun t183 => (if 2 < (t177.length : Int) then ((note_parse.f (rdOf ByteArray.empty t177 2)).bind fun t185 => (if 1 ≤ (t173.length : Int) then ((some (t173.drop 1 : List ByteArray)).bind fun y187 => (note_GetTask.l0 k a1 y187 (y187.length : Int) 0 a0_0 a0_1 a0_2 a0_3 l0_4 t181 t183 t185 ([] : List (S59)))) else (none))) else (none))) else (none))) else (none)) else (some (0, 0, 0, ([] : List (S59)), 1)))) else (none))) = some (r1, r2, r3, r4, r5) := h
 clear h
 replace H := Option.bind_eq_some_iff.mp H
 obtain ⟨t173, A30, H⟩ := H
 have A3 := Aside0.mk A30
 clear A30
 by_cases c4 : 0 < (t173.length : Int)
 ·rw [if_pos c4] at H
  have c4b0 : decide (0 < (t173.length : Int)) = true := decide_eq_true c4
  have c4b1 : decide (0 < t173.length) = true := decide_eq_true (by omega)
  try have c4b3 : (0 < t173.length) = True := eq_true (by omega)
  clear c4
  replace H := Option.bind_eq_some_iff.mp H
  obtain ⟨t177, A50, H⟩ := H
  have A5 := Aside0.mk A50
  clear A50
  by_cases c6 : (t177.length : Int) = 3
  ·rw [if_pos c6] at H
   have c6b0 : ((t177.length : Int) == 3) = true := beq_iff_eq.mpr c6
   have c6b1 : ((t177.length : Int) != 3) = false := bne_eq_false_iff_eq.mpr c6
   clear c6
   by_cases c7 : 0 < (t177.length : Int)
   ·rw [if_pos c7] at H
    have c7b0 : decide (0 < (t177.length : Int)) = true := decide_eq_true c7
    have c7b1 : decide (0 < t177.length) = true := decide_eq_true (by omega)
    try have c7b3 : (0 < t177.length) = True := eq_true (by omega)
    clear c7
    replace H := Option.bind_eq_some_iff.mp H
    obtain ⟨t181, A80, H⟩ := H
    have A8 := Aside0.mk A80
    clear A80
    by_cases c9 : 1 < (t177.length : Int)
    ·rw [if_pos c9] at H
     have c9b0 : decide (1 < (t177.length : Int)) = true := decide_eq_true c9
     have c9b1 : decide (1 < t177.length) = true := decide_eq_true (by omega)
     clear c9
     replace H := Option.bind_eq_some_iff.mp H
     obtain ⟨t183, A100, H⟩ := H
     have A10 := Aside0.mk A100
     clear A100
     by_cases c11 : 2 < (t177.length : Int)
     ·rw [if_pos c11] at H
      have c11b0 : decide (2 < (t177.length : Int)) = true := decide_eq_true c11
      have c11b1 : decide (2 < t177.length) = true := decide_eq_true (by omega)
      clear c11
      replace H := Option.bind_eq_some_iff.mp H
      obtain ⟨t185, A120, H⟩ := H
      have A12 := Aside0.mk A120
      clear A120
      by_cases c13 : 1 ≤ (t173.length : Int)
      ·rw [if_pos c13] at H
       have c13b0 := eq_true c13
       have c13b1 : decide (1 ≤ (t173.length : Int)) = true := decide_eq_true c13
       clear c13
       obtain ⟨y187, hy187⟩ : ∃ y_ : List ByteArray, y_ = (t173.drop 1) := ⟨_, rfl⟩
       replace H : (note_GetTask.l0 k a1 y187 (y187.length : Int) 0 a0_0 a0_1 a0_2 a0_3 l0_4 t181 t183 t185 ([] : List (S59))) = some (r1, r2, r3, r4, r5) := by (have H2_ := (Option.bind_some _ _).symm.trans H; rw [hy187]; with_reducible exact H2_)
       have Ny187 := Aside0.mk hy187
       clear hy187
       have H' := Aside0.mk H
       clear H
       go_enter Tryz.func62, Tryz.ntmps62
       try go_wp2_with (first | ((with_reducible refine gate_dst (N := 2) rfl ?_); refine box_event ?hg (N := 2) ?hd (cs := #[.int .i64 a0_0, .int .i64 a0_1, .int .i64 a0_2, .int .i64 a0_3, .slice A0_4 l0_4.length c0_4]) (t := 57) ?hr ?_; (case hd => rfl); (case hg => rfl); (case hr => (go_simp; done)); intro gb171 hg w14 hbox hb; have BK171 := Aside0.mk (hbox); have GW171 := Aside0.mk ((by rw [hg]; exact below_size HB.out : w.heap.size ≤ gb171)); have GE171 := Aside0.mk ((by rw [hg]; exact below_size HB.out : w.heap.size ≤ gb171)); replace HB := Aside0.mk (below_step HB.out hb); clear hb hbox hg) | ((with_reducible refine gate_dst (N := 4) rfl ?_); refine box_event ?hg (N := 4) ?hd (cs := #[.int .i64 0, .int .i64 0, .int .i64 0, .slice none 0 0]) (t := 62) ?hr ?_; (case hd => rfl); (case hg => rfl); (case hr => (go_simp; done)); intro gb172 hg w15 hbox hb; have BK172 := Aside0.mk (hbox); have GW172 := Aside0.mk ((by rw [hg]; exact below_size HB.out : w.heap.size ≤ gb172)); have GE172 := Aside0.mk ((by rw [hg]; exact below_size HB.out : w.heap.size ≤ gb172)); have NB171_172 := Aside0.mk ((by rw [hg]; exact Nat.ne_of_lt (blk_lt BK171.out) : gb171 ≠ gb172)); have NB172_171 := Aside0.mk ((by rw [hg]; exact Nat.ne_of_gt (blk_lt BK171.out) : gb172 ≠ gb171)); replace BK171 := Aside0.mk (blk_below BK171.out hb); replace HB := Aside0.mk (below_step HB.out hb); clear hb hbox hg) | ((with_reducible refine gate_callee (f := 72) rfl ?_); refine goesL_ (some 18) rfl rfl Tryz.func72 (by kernel_rfl) rfl #[.string a1, .string (⟨#[32]⟩ : ByteArray)] rfl (by (try simp only [List.map_toArray, List.map_cons, List.map_nil]); (rfl)) ?_; (with_reducible refine (strings_Split.calls a1 (⟨#[32]⟩ : ByteArray) t173 _ A3.out).mono ?_); rintro e w16 ⟨v174, rfl, ho0, hb⟩; refine ⟨_, rfl, ?_⟩; have HO175 := Aside0.mk (Kd.R_lower ho0 (below_size HB.out)); replace BK171 := Aside0.mk (blk_below BK171.out hb); replace BK172 := Aside0.mk (blk_below BK172.out hb); replace HB := Aside0.mk (below_step HB.out hb); (try clear hb); (try clear hb2); (try clear hk); (try clear hi); (try clear ho0); obtain ⟨Ao17, co17, eo17⟩ := Kd.R_slice HO175.out; subst eo17; have p176 : 0 ≤ (0 : Int) := (by omega); have q176 : 0 < (t173.length : Int) := of_decide_eq_true (by (with_reducible assumption)); obtain ⟨ad176, e176, hx176_0⟩ := Kd.at_string (Kd.R_reads' HO175.out).2.2 0 p176 q176; cases e176; have qi176 : (0 < t173.length) = True := eq_true (by omega); (try rw [show ((0 : Int)).toNat = 0 from rfl] at hx176_0); (try rw [Addr.add_zero'] at hx176_0); replace p176 := eq_true p176; replace q176 := eq_true q176) | ((with_reducible refine gate_callee (f := 72) rfl ?_); refine goesL_ (some 22) rfl rfl Tryz.func72 (by kernel_rfl) rfl #[.string (rdOf ByteArray.empty t173 0), .string (⟨#[47]⟩ : ByteArray)] rfl (by (try simp only [List.map_toArray, List.map_cons, List.map_nil]); (rfl)) ?_; (with_reducible refine (strings_Split.calls (rdOf ByteArray.empty t173 0) (⟨#[47]⟩ : ByteArray) t177 _ A5.out).mono ?_); rintro e w18 ⟨v178, rfl, ho0, hb⟩; refine ⟨_, rfl, ?_⟩; have HO179 := Aside0.mk (Kd.R_lower (Kd.R_new' ho0 (Kd.R_lt HO175.out)) (below_size HB.out)); replace HO175 := Aside0.mk (Kd.R_elder' HO175.out (Kd.R_base ho0) hb); replace BK171 := Aside0.mk (blk_below BK171.out hb); replace BK172 := Aside0.mk (blk_below BK172.out hb); replace HB := Aside0.mk (below_step HB.out hb); (try clear hb); (try clear hb2); (try clear hk); (try clear hi); (try clear ho0); obtain ⟨Ao19, co19, eo19⟩ := Kd.R_slice HO179.out; subst eo19))
       replace HO175 := Aside0.mk (Kd.R_drew HO175.out)
       replace HO179 := Aside0.mk (Kd.R_drew HO179.out)
       replace BK171 := Aside0.mk (blk_drew BK171.out)
       replace BK172 := Aside0.mk (blk_drew BK172.out)
       replace HB := Aside0.mk (below_drew1 HB.out)
       have p180 : 0 ≤ (0 : Int) := (by omega)
       have q180 : 0 < (t177.length : Int) := of_decide_eq_true (by (with_reducible assumption))
       obtain ⟨ad180, e180, hx180_0⟩ := Kd.at_string (Kd.R_reads' HO179.out).2.2 0 p180 q180
       cases e180
       have qi180 : (0 < t177.length) = True := eq_true (by omega)
       (try rw [show ((0 : Int)).toNat = 0 from rfl] at hx180_0)
       (try rw [Addr.add_zero'] at hx180_0)
       replace p180 := eq_true p180
       replace q180 := eq_true q180
       have p182 : 0 ≤ (1 : Int) := (by omega)
       have q182 : 1 < (t177.length : Int) := of_decide_eq_true (by (with_reducible assumption))
       obtain ⟨ad182, e182, hx182_0⟩ := Kd.at_string (Kd.R_reads' HO179.out).2.2 1 p182 q182
       obtain rfl : ad180 = ad182 := (by injection e182)
       (try simp only [show (1 : Int).toNat = 1 from rfl, Nat.reduceMul, Nat.reduceEqDiff, Go.Addr.add, ↓reduceIte] at hx182_0)
       have qi182 : (1 < t177.length) = True := eq_true (by omega)
       (try rw [show ((1 : Int)).toNat = 1 from rfl] at hx182_0)
       replace p182 := eq_true p182
       replace q182 := eq_true q182
       have p184 : 0 ≤ (2 : Int) := (by omega)
       have q184 : 2 < (t177.length : Int) := of_decide_eq_true (by (with_reducible assumption))
       obtain ⟨ad184, e184, hx184_0⟩ := Kd.at_string (Kd.R_reads' HO179.out).2.2 2 p184 q184
       obtain rfl : ad180 = ad184 := (by injection e184)
       (try simp only [show (2 : Int).toNat = 2 from rfl, Nat.reduceMul, Nat.reduceEqDiff, Go.Addr.add, ↓reduceIte] at hx184_0)
       have qi184 : (2 < t177.length) = True := eq_true (by omega)
       (try rw [show ((2 : Int)).toNat = 2 from rfl] at hx184_0)
       replace p184 := eq_true p184
       replace q184 := eq_true q184
       refine start_ (n := 15) (S := fun w' => w'.cell? ad180 = some (.string (rdOf ByteArray.empty t177 0)) ∧ w'.cell? ⟨ad180.block, ad180.off + 1, none⟩ = some (.string (rdOf ByteArray.empty t177 1)) ∧ w'.cell? ⟨ad180.block, ad180.off + 2, none⟩ = some (.string (rdOf ByteArray.empty t177 2))) (ds := []) (bs 15 0) (by kernel_rfl) rfl rfl ⟨hx180_0, hx182_0, hx184_0⟩ (fun hHeld => ?_); refine with_tabW note_GetTask.tab5 note_GetTask.bits5 (fun HT_ HW_ => ?_)
       generalize w18.drew = w20 at HO175 HO179 BK171 BK172 HB hx180_0 hx182_0 hx184_0 hHeld ⊢
       refine pureA_ (i := 0) (N := some 27) (bs 15 1) HT_ ?_
       refine pureA_ (i := 1) (N := some 28) (bs 15 3) HT_ ?_
       refine pureA_ (i := 4) (N := some 31) (bs 15 19) HT_ ?_
       refine pureA_ (i := 5) (N := some 32) (bs 15 51) HT_ ?_
       refine pureA_ (i := 8) (N := some 35) (bs 15 307) HT_ ?_
       refine pureA_ (i := 9) (N := some 36) (bs 15 819) HT_ ?_
       refine takeA_ (i := 2) (N := some 29) (bs 15 823) HT_ HW_ hHeld ?_
       refine takeA_ (i := 6) (N := some 33) (bs 15 887) HT_ HW_ hHeld ?_
       refine takeA_ (i := 10) (N := some 37) (bs 15 1911) HT_ HW_ hHeld ?_
       refine join_ (σ := Nat) 1 (bs 15 16383) (fun s_ => [(30, .int .i64 t181), (34, .int .i64 t183), (38, .int .i64 t185), (8, .pointer (some ⟨s_, 0, none⟩)), (39, .agg #[.int .i64 t181, .int .i64 t183, .int .i64 t185, .slice none 0 0])]) (fun s_ w' => (w'.cell? ad180 = some (.string (rdOf ByteArray.empty t177 0)) ∧ w'.cell? ⟨ad180.block, ad180.off + 1, none⟩ = some (.string (rdOf ByteArray.empty t177 1)) ∧ w'.cell? ⟨ad180.block, ad180.off + 2, none⟩ = some (.string (rdOf ByteArray.empty t177 2))) ∧ (Kd.R Kd.string 9 w' w.heap.size (fun k_ => some k_ ≠ (.slice (some ad180) t177.length co19 : Value).ownBlock) (.slice (some ad176) t173.length co17) t173) ∧ (Kd.R Kd.string 9 w' w.heap.size (fun k_ => some k_ ≠ (.slice (some ad176) t173.length co17 : Value).ownBlock) (.slice (some ad180) t177.length co19) t177) ∧ (w'.heap[gb171]? = some (.cells #[.int .i64 a0_0, .int .i64 a0_1, .int .i64 a0_2, .int .i64 a0_3, .slice A0_4 l0_4.length c0_4] 57 (0, 0))) ∧ (w'.heap[gb172]? = some (.cells #[.int .i64 0, .int .i64 0, .int .i64 0, .slice none 0 0] 62 (0, 0))) ∧ (w'.heap[s_]? = some (.cells #[.int .i64 0, .int .i64 0, .int .i64 0, .slice none 0 0] 62 (0, 0))) ∧ (w.heap.size ≤ s_) ∧ (w.heap.size ≤ s_) ∧ (gb171 ≠ s_) ∧ (s_ ≠ gb171) ∧ (gb172 ≠ s_) ∧ (s_ ≠ gb172) ∧ (Below w.heap.size w w')) ?_ ?_
       rotate_left
       ·intro hCont
        refine two_ (i := 3) (j := 13) (Ni := some 30) (Nj := some 8) (bs 15 1919) (bs 15 10103) rfl rfl rfl rfl (two_of HT_.out (by kernel_rfl)) (by decide) (by decide) (fun K hK => ?_) (fun K hK => ?_)
        ·skip
         refine goes_ Tryz.func73 (by kernel_rfl) rfl #[.string (rdOf ByteArray.empty t177 0)] (by rfl) rfl rfl (by (try simp only [List.map_toArray, List.map_cons, List.map_nil]); (rfl)) ?_
         with_reducible refine (note_parse.calls (rdOf ByteArray.empty t177 0) t181 _ A8.out).mono ?_
         rintro e w21 ⟨rfl, hb⟩
         have HS0_ := (hb.cell (World.block_lt_of_cell? _ _ (hHeld.1))).trans (hHeld.1)
         have HS1_ := (hb.cell (World.block_lt_of_cell? _ _ (hHeld.2.1))).trans (hHeld.2.1)
         have HS2_ := (hb.cell (World.block_lt_of_cell? _ _ (hHeld.2.2))).trans (hHeld.2.2)
         refine ⟨_, rfl, ?_⟩
         replace HO175 := Aside0.mk (Kd.R_below HO175.out hb)
         replace HO179 := Aside0.mk (Kd.R_below HO179.out hb)
         replace BK171 := Aside0.mk (blk_below BK171.out hb)
         replace BK172 := Aside0.mk (blk_below BK172.out hb)
         replace HB := Aside0.mk (below_step HB.out hb)
         (try clear hb)
         (try clear hb2)
         (try clear hk)
         (try clear hi)
         refine hK.out _ _ ⟨HS0_, HS1_, HS2_⟩ (fun hHeld => ?_)
         clear hK K
         refine norm_ (a' := ?_) ?_ ?_
         rotate_left
         ·show Act.put _ (some 30) _ = _
          simp only [Act.put, List.setIfInBounds_toArray, List.set_cons_zero, List.set_cons_succ, i64_w, i32_w]
          rfl
         refine two_ (i := 7) (j := 13) (Ni := some 34) (Nj := some 8) (bs 15 2047) (bs 15 10111) rfl rfl rfl rfl (two_of HT_.out (by kernel_rfl)) (by decide) (by decide) (fun K hK => ?_) (fun K hK => ?_)
         ·skip
          refine goes_ Tryz.func73 (by kernel_rfl) rfl #[.string (rdOf ByteArray.empty t177 1)] (by rfl) rfl rfl (by (try simp only [List.map_toArray, List.map_cons, List.map_nil]); (rfl)) ?_
          with_reducible refine (note_parse.calls (rdOf ByteArray.empty t177 1) t183 _ A10.out).mono ?_
          rintro e w22 ⟨rfl, hb⟩
          have HS0_ := (hb.cell (World.block_lt_of_cell? _ _ (hHeld.1))).trans (hHeld.1)
          have HS1_ := (hb.cell (World.block_lt_of_cell? _ _ (hHeld.2.1))).trans (hHeld.2.1)
          have HS2_ := (hb.cell (World.block_lt_of_cell? _ _ (hHeld.2.2))).trans (hHeld.2.2)
          refine ⟨_, rfl, ?_⟩
          replace HO175 := Aside0.mk (Kd.R_below HO175.out hb)
          replace HO179 := Aside0.mk (Kd.R_below HO179.out hb)
          replace BK171 := Aside0.mk (blk_below BK171.out hb)
          replace BK172 := Aside0.mk (blk_below BK172.out hb)
          replace HB := Aside0.mk (below_step HB.out hb)
          (try clear hb)
          (try clear hb2)
          (try clear hk)
          (try clear hi)
          refine hK.out _ _ ⟨HS0_, HS1_, HS2_⟩ (fun hHeld => ?_)
          clear hK K
          refine norm_ (a' := ?_) ?_ ?_
          rotate_left
          ·show Act.put _ (some 34) _ = _
           simp only [Act.put, List.setIfInBounds_toArray, List.set_cons_zero, List.set_cons_succ, i64_w, i32_w]
           rfl
          refine two_ (i := 11) (j := 13) (Ni := some 38) (Nj := some 8) (bs 15 4095) (bs 15 10239) rfl rfl rfl rfl (two_of HT_.out (by kernel_rfl)) (by decide) (by decide) (fun K hK => ?_) (fun K hK => ?_)
          ·skip
           refine goes_ Tryz.func73 (by kernel_rfl) rfl #[.string (rdOf ByteArray.empty t177 2)] (by rfl) rfl rfl (by (try simp only [List.map_toArray, List.map_cons, List.map_nil]); (rfl)) ?_
           with_reducible refine (note_parse.calls (rdOf ByteArray.empty t177 2) t185 _ A12.out).mono ?_
           rintro e w23 ⟨rfl, hb⟩
           have HS0_ := (hb.cell (World.block_lt_of_cell? _ _ (hHeld.1))).trans (hHeld.1)
           have HS1_ := (hb.cell (World.block_lt_of_cell? _ _ (hHeld.2.1))).trans (hHeld.2.1)
           have HS2_ := (hb.cell (World.block_lt_of_cell? _ _ (hHeld.2.2))).trans (hHeld.2.2)
           refine ⟨_, rfl, ?_⟩
           replace HO175 := Aside0.mk (Kd.R_below HO175.out hb)
           replace HO179 := Aside0.mk (Kd.R_below HO179.out hb)
           replace BK171 := Aside0.mk (blk_below BK171.out hb)
           replace BK172 := Aside0.mk (blk_below BK172.out hb)
           replace HB := Aside0.mk (below_step HB.out hb)
           (try clear hb)
           (try clear hb2)
           (try clear hk)
           (try clear hi)
           refine hK.out _ _ ⟨HS0_, HS1_, HS2_⟩ (fun hHeld => ?_)
           clear hK K
           refine norm_ (a' := ?_) ?_ ?_
           rotate_left
           ·show Act.put _ (some 38) _ = _
            simp only [Act.put, List.setIfInBounds_toArray, List.set_cons_zero, List.set_cons_succ, i64_w, i32_w]
            rfl
           refine pureA_ (i := 12) (N := some 39) (bs 15 8191) HT_ ?_
           refine one_ (i := 13) (N := some 8) (bs 15 16383) rfl rfl (one_of HT_.out (by kernel_rfl)) (by decide) (fun K hK => ?_)
           refine box_step ?hg (N := 8) ?hd (cs := #[.int .i64 0, .int .i64 0, .int .i64 0, .slice none 0 0]) (t := 62) ?hr ?_; (case hd => rfl); (case hg => rfl); (case hr => (go_simp; done))
           intro gb186 hg w24 hbox hb
           have HS0_ := (hb.cell (World.block_lt_of_cell? _ _ (hHeld.1))).trans (hHeld.1)
           have HS1_ := (hb.cell (World.block_lt_of_cell? _ _ (hHeld.2.1))).trans (hHeld.2.1)
           have HS2_ := (hb.cell (World.block_lt_of_cell? _ _ (hHeld.2.2))).trans (hHeld.2.2)
           have BK186 := Aside0.mk (hbox)
           have GW186 := Aside0.mk ((by rw [hg]; exact below_size HB.out : w.heap.size ≤ gb186))
           have GE186 := Aside0.mk ((by rw [hg]; exact below_size HB.out : w.heap.size ≤ gb186))
           have NB171_186 := Aside0.mk ((by rw [hg]; exact Nat.ne_of_lt (blk_lt BK171.out) : gb171 ≠ gb186))
           have NB186_171 := Aside0.mk ((by rw [hg]; exact Nat.ne_of_gt (blk_lt BK171.out) : gb186 ≠ gb171))
           have NB172_186 := Aside0.mk ((by rw [hg]; exact Nat.ne_of_lt (blk_lt BK172.out) : gb172 ≠ gb186))
           have NB186_172 := Aside0.mk ((by rw [hg]; exact Nat.ne_of_gt (blk_lt BK172.out) : gb186 ≠ gb172))
           replace HO175 := Aside0.mk (Kd.R_below HO175.out hb)
           replace HO179 := Aside0.mk (Kd.R_below HO179.out hb)
           replace BK171 := Aside0.mk (blk_below BK171.out hb)
           replace BK172 := Aside0.mk (blk_below BK172.out hb)
           replace HB := Aside0.mk (below_step HB.out hb)
           clear hb hbox hg
           refine hK.out _ _ ⟨HS0_, HS1_, HS2_⟩ (fun hHeld => ?_)
           clear hK K
           refine norm_ (a' := ?_) ?_ ?_
           rotate_left
           ·show Act.put _ (some 8) _ = _
            simp only [Act.put, List.setIfInBounds_toArray, List.set_cons_zero, List.set_cons_succ, i64_w, i32_w]
            rfl
           exact norm_ (by simp only [putAll, Act.put, List.setIfInBounds_toArray, List.set_cons_zero, List.set_cons_succ]) (hCont (gb186) _ ⟨hHeld, (by exact Kd.R_mono HO175.out (fun _ hk => hk.2)), (by exact Kd.R_mono HO179.out (fun _ hk => hk.2)), BK171.out, BK172.out, BK186.out, GW186.out, GE186.out, NB171_186.out, NB186_171.out, NB172_186.out, NB186_172.out, HB.out⟩)
          ·skip
           refine box_step ?hg (N := 8) ?hd (cs := #[.int .i64 0, .int .i64 0, .int .i64 0, .slice none 0 0]) (t := 62) ?hr ?_; (case hd => rfl); (case hg => rfl); (case hr => (go_simp; done))
           intro gb186 hg w23 hbox hb
           have HS0_ := (hb.cell (World.block_lt_of_cell? _ _ (hHeld.1))).trans (hHeld.1)
           have HS1_ := (hb.cell (World.block_lt_of_cell? _ _ (hHeld.2.1))).trans (hHeld.2.1)
           have HS2_ := (hb.cell (World.block_lt_of_cell? _ _ (hHeld.2.2))).trans (hHeld.2.2)
           have BK186 := Aside0.mk (hbox)
           have GW186 := Aside0.mk ((by rw [hg]; exact below_size HB.out : w.heap.size ≤ gb186))
           have GE186 := Aside0.mk ((by rw [hg]; exact below_size HB.out : w.heap.size ≤ gb186))
           have NB171_186 := Aside0.mk ((by rw [hg]; exact Nat.ne_of_lt (blk_lt BK171.out) : gb171 ≠ gb186))
           have NB186_171 := Aside0.mk ((by rw [hg]; exact Nat.ne_of_gt (blk_lt BK171.out) : gb186 ≠ gb171))
           have NB172_186 := Aside0.mk ((by rw [hg]; exact Nat.ne_of_lt (blk_lt BK172.out) : gb172 ≠ gb186))
           have NB186_172 := Aside0.mk ((by rw [hg]; exact Nat.ne_of_gt (blk_lt BK172.out) : gb186 ≠ gb172))
           replace HO175 := Aside0.mk (Kd.R_below HO175.out hb)
           replace HO179 := Aside0.mk (Kd.R_below HO179.out hb)
           replace BK171 := Aside0.mk (blk_below BK171.out hb)
           replace BK172 := Aside0.mk (blk_below BK172.out hb)
           replace HB := Aside0.mk (below_step HB.out hb)
           clear hb hbox hg
           refine hK.out _ _ ⟨HS0_, HS1_, HS2_⟩ (fun hHeld => ?_)
           clear hK K
           refine norm_ (a' := ?_) ?_ ?_
           rotate_left
           ·show Act.put _ (some 8) _ = _
            simp only [Act.put, List.setIfInBounds_toArray, List.set_cons_zero, List.set_cons_succ, i64_w, i32_w]
            rfl
           refine one_ (i := 11) (N := some 38) (bs 15 12287) rfl rfl (one_of HT_.out (by kernel_rfl)) (by decide) (fun K hK => ?_)
           refine goes_ Tryz.func73 (by kernel_rfl) rfl #[.string (rdOf ByteArray.empty t177 2)] (by rfl) rfl rfl (by (try simp only [List.map_toArray, List.map_cons, List.map_nil]); (rfl)) ?_
           with_reducible refine (note_parse.calls (rdOf ByteArray.empty t177 2) t185 _ A12.out).mono ?_
           rintro e w24 ⟨rfl, hb⟩
           have HS0_ := (hb.cell (World.block_lt_of_cell? _ _ (hHeld.1))).trans (hHeld.1)
           have HS1_ := (hb.cell (World.block_lt_of_cell? _ _ (hHeld.2.1))).trans (hHeld.2.1)
           have HS2_ := (hb.cell (World.block_lt_of_cell? _ _ (hHeld.2.2))).trans (hHeld.2.2)
           refine ⟨_, rfl, ?_⟩
           replace HO175 := Aside0.mk (Kd.R_below HO175.out hb)
           replace HO179 := Aside0.mk (Kd.R_below HO179.out hb)
           replace BK171 := Aside0.mk (blk_below BK171.out hb)
           replace BK172 := Aside0.mk (blk_below BK172.out hb)
           replace BK186 := Aside0.mk (blk_below BK186.out hb)
           replace HB := Aside0.mk (below_step HB.out hb)
           (try clear hb)
           (try clear hb2)
           (try clear hk)
           (try clear hi)
           refine hK.out _ _ ⟨HS0_, HS1_, HS2_⟩ (fun hHeld => ?_)
           clear hK K
           refine norm_ (a' := ?_) ?_ ?_
           rotate_left
           ·show Act.put _ (some 38) _ = _
            simp only [Act.put, List.setIfInBounds_toArray, List.set_cons_zero, List.set_cons_succ, i64_w, i32_w]
            rfl
           refine pureA_ (i := 12) (N := some 39) (bs 15 16383) HT_ ?_
           exact norm_ (by simp only [putAll, Act.put, List.setIfInBounds_toArray, List.set_cons_zero, List.set_cons_succ]) (hCont (gb186) _ ⟨hHeld, (by exact Kd.R_mono HO175.out (fun _ hk => hk.2)), (by exact Kd.R_mono HO179.out (fun _ hk => hk.2)), BK171.out, BK172.out, BK186.out, GW186.out, GE186.out, NB171_186.out, NB186_171.out, NB172_186.out, NB186_172.out, HB.out⟩)
         ·skip
          refine box_step ?hg (N := 8) ?hd (cs := #[.int .i64 0, .int .i64 0, .int .i64 0, .slice none 0 0]) (t := 62) ?hr ?_; (case hd => rfl); (case hg => rfl); (case hr => (go_simp; done))
          intro gb186 hg w22 hbox hb
          have HS0_ := (hb.cell (World.block_lt_of_cell? _ _ (hHeld.1))).trans (hHeld.1)
          have HS1_ := (hb.cell (World.block_lt_of_cell? _ _ (hHeld.2.1))).trans (hHeld.2.1)
          have HS2_ := (hb.cell (World.block_lt_of_cell? _ _ (hHeld.2.2))).trans (hHeld.2.2)
          have BK186 := Aside0.mk (hbox)
          have GW186 := Aside0.mk ((by rw [hg]; exact below_size HB.out : w.heap.size ≤ gb186))
          have GE186 := Aside0.mk ((by rw [hg]; exact below_size HB.out : w.heap.size ≤ gb186))
          have NB171_186 := Aside0.mk ((by rw [hg]; exact Nat.ne_of_lt (blk_lt BK171.out) : gb171 ≠ gb186))
          have NB186_171 := Aside0.mk ((by rw [hg]; exact Nat.ne_of_gt (blk_lt BK171.out) : gb186 ≠ gb171))
          have NB172_186 := Aside0.mk ((by rw [hg]; exact Nat.ne_of_lt (blk_lt BK172.out) : gb172 ≠ gb186))
          have NB186_172 := Aside0.mk ((by rw [hg]; exact Nat.ne_of_gt (blk_lt BK172.out) : gb186 ≠ gb172))
          replace HO175 := Aside0.mk (Kd.R_below HO175.out hb)
          replace HO179 := Aside0.mk (Kd.R_below HO179.out hb)
          replace BK171 := Aside0.mk (blk_below BK171.out hb)
          replace BK172 := Aside0.mk (blk_below BK172.out hb)
          replace HB := Aside0.mk (below_step HB.out hb)
          clear hb hbox hg
          refine hK.out _ _ ⟨HS0_, HS1_, HS2_⟩ (fun hHeld => ?_)
          clear hK K
          refine norm_ (a' := ?_) ?_ ?_
          rotate_left
          ·show Act.put _ (some 8) _ = _
           simp only [Act.put, List.setIfInBounds_toArray, List.set_cons_zero, List.set_cons_succ, i64_w, i32_w]
           rfl
          refine one_ (i := 7) (N := some 34) (bs 15 10239) rfl rfl (one_of HT_.out (by kernel_rfl)) (by decide) (fun K hK => ?_)
          refine goes_ Tryz.func73 (by kernel_rfl) rfl #[.string (rdOf ByteArray.empty t177 1)] (by rfl) rfl rfl (by (try simp only [List.map_toArray, List.map_cons, List.map_nil]); (rfl)) ?_
          with_reducible refine (note_parse.calls (rdOf ByteArray.empty t177 1) t183 _ A10.out).mono ?_
          rintro e w23 ⟨rfl, hb⟩
          have HS0_ := (hb.cell (World.block_lt_of_cell? _ _ (hHeld.1))).trans (hHeld.1)
          have HS1_ := (hb.cell (World.block_lt_of_cell? _ _ (hHeld.2.1))).trans (hHeld.2.1)
          have HS2_ := (hb.cell (World.block_lt_of_cell? _ _ (hHeld.2.2))).trans (hHeld.2.2)
          refine ⟨_, rfl, ?_⟩
          replace HO175 := Aside0.mk (Kd.R_below HO175.out hb)
          replace HO179 := Aside0.mk (Kd.R_below HO179.out hb)
          replace BK171 := Aside0.mk (blk_below BK171.out hb)
          replace BK172 := Aside0.mk (blk_below BK172.out hb)
          replace BK186 := Aside0.mk (blk_below BK186.out hb)
          replace HB := Aside0.mk (below_step HB.out hb)
          (try clear hb)
          (try clear hb2)
          (try clear hk)
          (try clear hi)
          refine hK.out _ _ ⟨HS0_, HS1_, HS2_⟩ (fun hHeld => ?_)
          clear hK K
          refine norm_ (a' := ?_) ?_ ?_
          rotate_left
          ·show Act.put _ (some 34) _ = _
           simp only [Act.put, List.setIfInBounds_toArray, List.set_cons_zero, List.set_cons_succ, i64_w, i32_w]
           rfl
          refine one_ (i := 11) (N := some 38) (bs 15 12287) rfl rfl (one_of HT_.out (by kernel_rfl)) (by decide) (fun K hK => ?_)
          refine goes_ Tryz.func73 (by kernel_rfl) rfl #[.string (rdOf ByteArray.empty t177 2)] (by rfl) rfl rfl (by (try simp only [List.map_toArray, List.map_cons, List.map_nil]); (rfl)) ?_
          with_reducible refine (note_parse.calls (rdOf ByteArray.empty t177 2) t185 _ A12.out).mono ?_
          rintro e w24 ⟨rfl, hb⟩
          have HS0_ := (hb.cell (World.block_lt_of_cell? _ _ (hHeld.1))).trans (hHeld.1)
          have HS1_ := (hb.cell (World.block_lt_of_cell? _ _ (hHeld.2.1))).trans (hHeld.2.1)
          have HS2_ := (hb.cell (World.block_lt_of_cell? _ _ (hHeld.2.2))).trans (hHeld.2.2)
          refine ⟨_, rfl, ?_⟩
          replace HO175 := Aside0.mk (Kd.R_below HO175.out hb)
          replace HO179 := Aside0.mk (Kd.R_below HO179.out hb)
          replace BK171 := Aside0.mk (blk_below BK171.out hb)
          replace BK172 := Aside0.mk (blk_below BK172.out hb)
          replace BK186 := Aside0.mk (blk_below BK186.out hb)
          replace HB := Aside0.mk (below_step HB.out hb)
          (try clear hb)
          (try clear hb2)
          (try clear hk)
          (try clear hi)
          refine hK.out _ _ ⟨HS0_, HS1_, HS2_⟩ (fun hHeld => ?_)
          clear hK K
          refine norm_ (a' := ?_) ?_ ?_
          rotate_left
          ·show Act.put _ (some 38) _ = _
           simp only [Act.put, List.setIfInBounds_toArray, List.set_cons_zero, List.set_cons_succ, i64_w, i32_w]
           rfl
          refine pureA_ (i := 12) (N := some 39) (bs 15 16383) HT_ ?_
          exact norm_ (by simp only [putAll, Act.put, List.setIfInBounds_toArray, List.set_cons_zero, List.set_cons_succ]) (hCont (gb186) _ ⟨hHeld, (by exact Kd.R_mono HO175.out (fun _ hk => hk.2)), (by exact Kd.R_mono HO179.out (fun _ hk => hk.2)), BK171.out, BK172.out, BK186.out, GW186.out, GE186.out, NB171_186.out, NB186_171.out, NB172_186.out, NB186_172.out, HB.out⟩)
        ·skip
         refine box_step ?hg (N := 8) ?hd (cs := #[.int .i64 0, .int .i64 0, .int .i64 0, .slice none 0 0]) (t := 62) ?hr ?_; (case hd => rfl); (case hg => rfl); (case hr => (go_simp; done))
         intro gb186 hg w21 hbox hb
         have HS0_ := (hb.cell (World.block_lt_of_cell? _ _ (hHeld.1))).trans (hHeld.1)
         have HS1_ := (hb.cell (World.block_lt_of_cell? _ _ (hHeld.2.1))).trans (hHeld.2.1)
         have HS2_ := (hb.cell (World.block_lt_of_cell? _ _ (hHeld.2.2))).trans (hHeld.2.2)
         have BK186 := Aside0.mk (hbox)
         have GW186 := Aside0.mk ((by rw [hg]; exact below_size HB.out : w.heap.size ≤ gb186))
         have GE186 := Aside0.mk ((by rw [hg]; exact below_size HB.out : w.heap.size ≤ gb186))
         have NB171_186 := Aside0.mk ((by rw [hg]; exact Nat.ne_of_lt (blk_lt BK171.out) : gb171 ≠ gb186))
         have NB186_171 := Aside0.mk ((by rw [hg]; exact Nat.ne_of_gt (blk_lt BK171.out) : gb186 ≠ gb171))
         have NB172_186 := Aside0.mk ((by rw [hg]; exact Nat.ne_of_lt (blk_lt BK172.out) : gb172 ≠ gb186))
         have NB186_172 := Aside0.mk ((by rw [hg]; exact Nat.ne_of_gt (blk_lt BK172.out) : gb186 ≠ gb172))
         replace HO175 := Aside0.mk (Kd.R_below HO175.out hb)
         replace HO179 := Aside0.mk (Kd.R_below HO179.out hb)
         replace BK171 := Aside0.mk (blk_below BK171.out hb)
         replace BK172 := Aside0.mk (blk_below BK172.out hb)
         replace HB := Aside0.mk (below_step HB.out hb)
         clear hb hbox hg
         refine hK.out _ _ ⟨HS0_, HS1_, HS2_⟩ (fun hHeld => ?_)
         clear hK K
         refine norm_ (a' := ?_) ?_ ?_
         rotate_left
         ·show Act.put _ (some 8) _ = _
          simp only [Act.put, List.setIfInBounds_toArray, List.set_cons_zero, List.set_cons_succ, i64_w, i32_w]
          rfl
         refine one_ (i := 3) (N := some 30) (bs 15 10111) rfl rfl (one_of HT_.out (by kernel_rfl)) (by decide) (fun K hK => ?_)
         refine goes_ Tryz.func73 (by kernel_rfl) rfl #[.string (rdOf ByteArray.empty t177 0)] (by rfl) rfl rfl (by (try simp only [List.map_toArray, List.map_cons, List.map_nil]); (rfl)) ?_
         with_reducible refine (note_parse.calls (rdOf ByteArray.empty t177 0) t181 _ A8.out).mono ?_
         rintro e w22 ⟨rfl, hb⟩
         have HS0_ := (hb.cell (World.block_lt_of_cell? _ _ (hHeld.1))).trans (hHeld.1)
         have HS1_ := (hb.cell (World.block_lt_of_cell? _ _ (hHeld.2.1))).trans (hHeld.2.1)
         have HS2_ := (hb.cell (World.block_lt_of_cell? _ _ (hHeld.2.2))).trans (hHeld.2.2)
         refine ⟨_, rfl, ?_⟩
         replace HO175 := Aside0.mk (Kd.R_below HO175.out hb)
         replace HO179 := Aside0.mk (Kd.R_below HO179.out hb)
         replace BK171 := Aside0.mk (blk_below BK171.out hb)
         replace BK172 := Aside0.mk (blk_below BK172.out hb)
         replace BK186 := Aside0.mk (blk_below BK186.out hb)
         replace HB := Aside0.mk (below_step HB.out hb)
         (try clear hb)
         (try clear hb2)
         (try clear hk)
         (try clear hi)
         refine hK.out _ _ ⟨HS0_, HS1_, HS2_⟩ (fun hHeld => ?_)
         clear hK K
         refine norm_ (a' := ?_) ?_ ?_
         rotate_left
         ·show Act.put _ (some 30) _ = _
          simp only [Act.put, List.setIfInBounds_toArray, List.set_cons_zero, List.set_cons_succ, i64_w, i32_w]
          rfl
         refine one_ (i := 7) (N := some 34) (bs 15 10239) rfl rfl (one_of HT_.out (by kernel_rfl)) (by decide) (fun K hK => ?_)
         refine goes_ Tryz.func73 (by kernel_rfl) rfl #[.string (rdOf ByteArray.empty t177 1)] (by rfl) rfl rfl (by (try simp only [List.map_toArray, List.map_cons, List.map_nil]); (rfl)) ?_
         with_reducible refine (note_parse.calls (rdOf ByteArray.empty t177 1) t183 _ A10.out).mono ?_
         rintro e w23 ⟨rfl, hb⟩
         have HS0_ := (hb.cell (World.block_lt_of_cell? _ _ (hHeld.1))).trans (hHeld.1)
         have HS1_ := (hb.cell (World.block_lt_of_cell? _ _ (hHeld.2.1))).trans (hHeld.2.1)
         have HS2_ := (hb.cell (World.block_lt_of_cell? _ _ (hHeld.2.2))).trans (hHeld.2.2)
         refine ⟨_, rfl, ?_⟩
         replace HO175 := Aside0.mk (Kd.R_below HO175.out hb)
         replace HO179 := Aside0.mk (Kd.R_below HO179.out hb)
         replace BK171 := Aside0.mk (blk_below BK171.out hb)
         replace BK172 := Aside0.mk (blk_below BK172.out hb)
         replace BK186 := Aside0.mk (blk_below BK186.out hb)
         replace HB := Aside0.mk (below_step HB.out hb)
         (try clear hb)
         (try clear hb2)
         (try clear hk)
         (try clear hi)
         refine hK.out _ _ ⟨HS0_, HS1_, HS2_⟩ (fun hHeld => ?_)
         clear hK K
         refine norm_ (a' := ?_) ?_ ?_
         rotate_left
         ·show Act.put _ (some 34) _ = _
          simp only [Act.put, List.setIfInBounds_toArray, List.set_cons_zero, List.set_cons_succ, i64_w, i32_w]
          rfl
         refine one_ (i := 11) (N := some 38) (bs 15 12287) rfl rfl (one_of HT_.out (by kernel_rfl)) (by decide) (fun K hK => ?_)
         refine goes_ Tryz.func73 (by kernel_rfl) rfl #[.string (rdOf ByteArray.empty t177 2)] (by rfl) rfl rfl (by (try simp only [List.map_toArray, List.map_cons, List.map_nil]); (rfl)) ?_
         with_reducible refine (note_parse.calls (rdOf ByteArray.empty t177 2) t185 _ A12.out).mono ?_
         rintro e w24 ⟨rfl, hb⟩
         have HS0_ := (hb.cell (World.block_lt_of_cell? _ _ (hHeld.1))).trans (hHeld.1)
         have HS1_ := (hb.cell (World.block_lt_of_cell? _ _ (hHeld.2.1))).trans (hHeld.2.1)
         have HS2_ := (hb.cell (World.block_lt_of_cell? _ _ (hHeld.2.2))).trans (hHeld.2.2)
         refine ⟨_, rfl, ?_⟩
         replace HO175 := Aside0.mk (Kd.R_below HO175.out hb)
         replace HO179 := Aside0.mk (Kd.R_below HO179.out hb)
         replace BK171 := Aside0.mk (blk_below BK171.out hb)
         replace BK172 := Aside0.mk (blk_below BK172.out hb)
         replace BK186 := Aside0.mk (blk_below BK186.out hb)
         replace HB := Aside0.mk (below_step HB.out hb)
         (try clear hb)
         (try clear hb2)
         (try clear hk)
         (try clear hi)
         refine hK.out _ _ ⟨HS0_, HS1_, HS2_⟩ (fun hHeld => ?_)
         clear hK K
         refine norm_ (a' := ?_) ?_ ?_
         rotate_left
         ·show Act.put _ (some 38) _ = _
          simp only [Act.put, List.setIfInBounds_toArray, List.set_cons_zero, List.set_cons_succ, i64_w, i32_w]
          rfl
         refine pureA_ (i := 12) (N := some 39) (bs 15 16383) HT_ ?_
         exact norm_ (by simp only [putAll, Act.put, List.setIfInBounds_toArray, List.set_cons_zero, List.set_cons_succ]) (hCont (gb186) _ ⟨hHeld, (by exact Kd.R_mono HO175.out (fun _ hk => hk.2)), (by exact Kd.R_mono HO179.out (fun _ hk => hk.2)), BK171.out, BK172.out, BK186.out, GW186.out, GE186.out, NB171_186.out, NB186_171.out, NB172_186.out, NB186_172.out, HB.out⟩)
       rintro gb186 w25 ⟨hS_, h0_, h1_, h2_, h3_, h4_, h5_, h6_, h7_, h8_, h9_, h10_, h11_⟩
       have BK186 : Aside0 (w25.heap[gb186]? = some (.cells #[.int .i64 0, .int .i64 0, .int .i64 0, .slice none 0 0] 62 (0, 0))) := ⟨h4_⟩
       have GW186 : Aside0 (w.heap.size ≤ gb186) := ⟨h5_⟩
       have GE186 : Aside0 (w.heap.size ≤ gb186) := ⟨h6_⟩
       have NB171_186 : Aside0 (gb171 ≠ gb186) := ⟨h7_⟩
       have NB186_171 : Aside0 (gb186 ≠ gb171) := ⟨h8_⟩
       have NB172_186 : Aside0 (gb172 ≠ gb186) := ⟨h9_⟩
       have NB186_172 : Aside0 (gb186 ≠ gb172) := ⟨h10_⟩
       replace HO175 : Aside0 (Kd.R Kd.string 9 w25 w.heap.size (fun k_ => some k_ ≠ (.slice (some ad180) t177.length co19 : Value).ownBlock) (.slice (some ad176) t173.length co17) t173) := ⟨h0_⟩
       replace HO179 : Aside0 (Kd.R Kd.string 9 w25 w.heap.size (fun k_ => some k_ ≠ (.slice (some ad176) t173.length co17 : Value).ownBlock) (.slice (some ad180) t177.length co19) t177) := ⟨h1_⟩
       replace BK171 : Aside0 (w25.heap[gb171]? = some (.cells #[.int .i64 a0_0, .int .i64 a0_1, .int .i64 a0_2, .int .i64 a0_3, .slice A0_4 l0_4.length c0_4] 57 (0, 0))) := ⟨h2_⟩
       replace BK172 : Aside0 (w25.heap[gb172]? = some (.cells #[.int .i64 0, .int .i64 0, .int .i64 0, .slice none 0 0] 62 (0, 0))) := ⟨h3_⟩
       replace HB : Aside0 (Below w.heap.size w w25) := ⟨h11_⟩
       clear h0_ h1_ h2_ h3_ h4_ h5_ h6_ h7_ h8_ h9_ h10_ h11_
       have hHeld : w25.cell? ad180 = some (.string (rdOf ByteArray.empty t177 0)) ∧ w25.cell? ⟨ad180.block, ad180.off + 1, none⟩ = some (.string (rdOf ByteArray.empty t177 1)) ∧ w25.cell? ⟨ad180.block, ad180.off + 2, none⟩ = some (.string (rdOf ByteArray.empty t177 2)) := hS_
       refine norm_ (a' := ?_) ?_ ?_
       rotate_left
       ·simp only [putAll, Act.put, List.setIfInBounds_toArray, List.set_cons_zero, List.set_cons_succ]
        rfl
       refine one_ (i := 14) (N := none) (bs 15 32767) rfl rfl (one_of HT_.out (by kernel_rfl)) (by decide) (fun K hK => ?_)
       have hs26 : w25.cell? ⟨gb186, 0, none⟩ = some (.int .i64 0) := (blk_cell BK186.out 0).trans rfl
       have hfs26 := blk_frozen BK186.out 0
       have hns26_0 := NB171_186.out
       have hns26_1 := NB172_186.out
       have hms26_0 := NB186_171.out
       have hms26_1 := NB186_172.out
       have hs27 : w25.cell? ⟨gb186, 1, none⟩ = some (.int .i64 0) := (blk_cell BK186.out 1).trans rfl
       have hfs27 := blk_frozen BK186.out 1
       have hns27_0 := NB171_186.out
       have hns27_1 := NB172_186.out
       have hms27_0 := NB186_171.out
       have hms27_1 := NB186_172.out
       have hs28 : w25.cell? ⟨gb186, 2, none⟩ = some (.int .i64 0) := (blk_cell BK186.out 2).trans rfl
       have hfs28 := blk_frozen BK186.out 2
       have hns28_0 := NB171_186.out
       have hns28_1 := NB172_186.out
       have hms28_0 := NB186_171.out
       have hms28_1 := NB186_172.out
       have hs29 : w25.cell? ⟨gb186, 3, none⟩ = some (.slice none 0 0) := (blk_cell BK186.out 3).trans rfl
       have hfs29 := blk_frozen BK186.out 3
       have hns29_0 := NB171_186.out
       have hns29_1 := NB172_186.out
       have hms29_0 := NB186_171.out
       have hms29_1 := NB186_172.out
       refine skip_ (w1 := ?_) (by rfl) rfl ?_ ?_
       rotate_left
       ·go_simp
        rfl
       refine hK.out _ _ ⟨((cell_far (p := ⟨gb186, _, none⟩) (by (exact Kd.own_blk (Kd.R_ne HO179.out BK186.out (by decide)))) _).trans (((cell_far (p := ⟨gb186, _, none⟩) (by (exact Kd.own_blk (Kd.R_ne HO179.out BK186.out (by decide)))) _).trans (((cell_far (p := ⟨gb186, _, none⟩) (by (exact Kd.own_blk (Kd.R_ne HO179.out BK186.out (by decide)))) _).trans (((cell_far (p := ⟨gb186, _, none⟩) (by (exact Kd.own_blk (Kd.R_ne HO179.out BK186.out (by decide)))) _).trans (hHeld.1)))))))), ((cell_far (p := ⟨gb186, _, none⟩) (by (dsimp only; exact Kd.own_blk (Kd.R_ne HO179.out BK186.out (by decide)))) _).trans (((cell_far (p := ⟨gb186, _, none⟩) (by (dsimp only; exact Kd.own_blk (Kd.R_ne HO179.out BK186.out (by decide)))) _).trans (((cell_far (p := ⟨gb186, _, none⟩) (by (dsimp only; exact Kd.own_blk (Kd.R_ne HO179.out BK186.out (by decide)))) _).trans (((cell_far (p := ⟨gb186, _, none⟩) (by (dsimp only; exact Kd.own_blk (Kd.R_ne HO179.out BK186.out (by decide)))) _).trans (hHeld.2.1)))))))), ((cell_far (p := ⟨gb186, _, none⟩) (by (dsimp only; exact Kd.own_blk (Kd.R_ne HO179.out BK186.out (by decide)))) _).trans (((cell_far (p := ⟨gb186, _, none⟩) (by (dsimp only; exact Kd.own_blk (Kd.R_ne HO179.out BK186.out (by decide)))) _).trans (((cell_far (p := ⟨gb186, _, none⟩) (by (dsimp only; exact Kd.own_blk (Kd.R_ne HO179.out BK186.out (by decide)))) _).trans (((cell_far (p := ⟨gb186, _, none⟩) (by (dsimp only; exact Kd.own_blk (Kd.R_ne HO179.out BK186.out (by decide)))) _).trans (hHeld.2.2))))))))⟩ (fun hHeld => ?_)
       clear hK K
       refine done_ (done_of HT_.out (by kernel_rfl)) ?_
       have n0_ : Aside0 (Kd.R Kd.string 9 ((((w25.setCell ⟨gb186, 0, none⟩ (.int .i64 t181)).setCell ⟨gb186, 1, none⟩ (.int .i64 t183)).setCell ⟨gb186, 2, none⟩ (.int .i64 t185)).setCell ⟨gb186, 3, none⟩ (.slice none 0 0)) w.heap.size (fun k_ => some k_ ≠ (.slice (some ad180) t177.length co19 : Value).ownBlock) (.slice (some ad176) t173.length co17) t173) := ⟨by exact Kd.R_mono (Kd.R_far (p := ⟨gb186, 3, none⟩) (Kd.R_far (p := ⟨gb186, 2, none⟩) (Kd.R_far (p := ⟨gb186, 1, none⟩) (Kd.R_far (p := ⟨gb186, 0, none⟩) (Kd.R_types HO175.out BK186.out (by decide)) (fun _ hk => hk.2) (.int .i64 t181)) (fun _ hk => hk.2) (.int .i64 t183)) (fun _ hk => hk.2) (.int .i64 t185)) (fun _ hk => hk.2) (.slice none 0 0)) (fun _ hk => hk.1)⟩
       have n1_ : Aside0 (Kd.R Kd.string 9 ((((w25.setCell ⟨gb186, 0, none⟩ (.int .i64 t181)).setCell ⟨gb186, 1, none⟩ (.int .i64 t183)).setCell ⟨gb186, 2, none⟩ (.int .i64 t185)).setCell ⟨gb186, 3, none⟩ (.slice none 0 0)) w.heap.size (fun k_ => some k_ ≠ (.slice (some ad176) t173.length co17 : Value).ownBlock) (.slice (some ad180) t177.length co19) t177) := ⟨by exact Kd.R_mono (Kd.R_far (p := ⟨gb186, 3, none⟩) (Kd.R_far (p := ⟨gb186, 2, none⟩) (Kd.R_far (p := ⟨gb186, 1, none⟩) (Kd.R_far (p := ⟨gb186, 0, none⟩) (Kd.R_types HO179.out BK186.out (by decide)) (fun _ hk => hk.2) (.int .i64 t181)) (fun _ hk => hk.2) (.int .i64 t183)) (fun _ hk => hk.2) (.int .i64 t185)) (fun _ hk => hk.2) (.slice none 0 0)) (fun _ hk => hk.1)⟩
       have n2_ : Aside0 (((((w25.setCell ⟨gb186, 0, none⟩ (.int .i64 t181)).setCell ⟨gb186, 1, none⟩ (.int .i64 t183)).setCell ⟨gb186, 2, none⟩ (.int .i64 t185)).setCell ⟨gb186, 3, none⟩ (.slice none 0 0)).heap[gb171]? = some (.cells #[.int .i64 a0_0, .int .i64 a0_1, .int .i64 a0_2, .int .i64 a0_3, .slice A0_4 l0_4.length c0_4] 57 (0, 0))) := ⟨by refine blk_far ?_ NB171_186.out _; refine blk_far ?_ NB171_186.out _; refine blk_far ?_ NB171_186.out _; refine blk_far ?_ NB171_186.out _; exact BK171.out⟩
       have n3_ : Aside0 (((((w25.setCell ⟨gb186, 0, none⟩ (.int .i64 t181)).setCell ⟨gb186, 1, none⟩ (.int .i64 t183)).setCell ⟨gb186, 2, none⟩ (.int .i64 t185)).setCell ⟨gb186, 3, none⟩ (.slice none 0 0)).heap[gb172]? = some (.cells #[.int .i64 0, .int .i64 0, .int .i64 0, .slice none 0 0] 62 (0, 0))) := ⟨by refine blk_far ?_ NB172_186.out _; refine blk_far ?_ NB172_186.out _; refine blk_far ?_ NB172_186.out _; refine blk_far ?_ NB172_186.out _; exact BK172.out⟩
       have n4_ : Aside0 (((((w25.setCell ⟨gb186, 0, none⟩ (.int .i64 t181)).setCell ⟨gb186, 1, none⟩ (.int .i64 t183)).setCell ⟨gb186, 2, none⟩ (.int .i64 t185)).setCell ⟨gb186, 3, none⟩ (.slice none 0 0)).heap[gb186]? = some (.cells #[.int .i64 t181, .int .i64 t183, .int .i64 t185, .slice none 0 0] 62 (0, 0))) := ⟨by refine blk_put (cs := #[.int .i64 t181, .int .i64 t183, .int .i64 t185, .slice none 0 0]) ?_ 3 _ rfl; refine blk_put (cs := #[.int .i64 t181, .int .i64 t183, .int .i64 0, .slice none 0 0]) ?_ 2 _ rfl; refine blk_put (cs := #[.int .i64 t181, .int .i64 0, .int .i64 0, .slice none 0 0]) ?_ 1 _ rfl; refine blk_put (cs := #[.int .i64 0, .int .i64 0, .int .i64 0, .slice none 0 0]) ?_ 0 _ rfl; exact BK186.out⟩
       have n5_ : Aside0 (Below w.heap.size w ((((w25.setCell ⟨gb186, 0, none⟩ (.int .i64 t181)).setCell ⟨gb186, 1, none⟩ (.int .i64 t183)).setCell ⟨gb186, 2, none⟩ (.int .i64 t185)).setCell ⟨gb186, 3, none⟩ (.slice none 0 0))) := ⟨by repeat ((with_reducible first | exact HB.out | refine below_set ?_ GE186.out))⟩
       (try clear HO175)
       (try clear HO179)
       (try clear BK171)
       (try clear BK172)
       (try clear BK186)
       (try clear HB)
       generalize ((((w25.setCell ⟨gb186, 0, none⟩ (.int .i64 t181)).setCell ⟨gb186, 1, none⟩ (.int .i64 t183)).setCell ⟨gb186, 2, none⟩ (.int .i64 t185)).setCell ⟨gb186, 3, none⟩ (.slice none 0 0)) = w30 at n0_ n1_ n2_ n3_ n4_ n5_ ⊢
       have HO175 := n0_
       have HO179 := n1_
       have BK171 := n2_
       have BK172 := n3_
       have BK186 := n4_
       have HB := n5_
       clear n0_ n1_ n2_ n3_ n4_ n5_
       have q31 : (1 : Int) ≤ ((t173.length : Int) : Int) := of_decide_eq_true (by (with_reducible assumption))
       obtain ⟨i031, hi031, _, hsz31, _⟩ := info_parts info9
       have hroom31 : t173.length ≤ co17 := (Kd.R_reads' HO175.out).2.1
       have hC31 : Kd.F Kd.string _ _ (some ad176) t173.length t173 := (Kd.V_at (base := w.heap.size) (Kd.R_V (Kd.R_types (Kd.R_types (Kd.R_types (HO175.out) BK171.out (by decide)) BK172.out (by decide)) BK186.out (by decide)))).2.2
       have hcut31 := cut_from (P := Tryz.prog) 78 9 .i64 Tryz.underlying78 hi031 1 hsz31 (some ad176) t173.length co17 1 (by omega) q31
       have hr31 := Kd.F_cut (m := (1 : Int).toNat) (c := co17) hC31 (by omega) hroom31
       obtain ⟨A31, hA31⟩ : ∃ A1, A1 = (if co17 = (1 : Int).toNat then (some ad176) else ((some ad176) : Option Addr).map (·.add ((1 : Int).toNat * 1))) := ⟨_, rfl⟩
       obtain ⟨c31, hc31⟩ : ∃ c1, c1 = co17 - (1 : Int).toNat := ⟨_, rfl⟩
       have hy31 : y187.length = t173.length - (1 : Int).toNat := (by rw [Ny187.out, List.length_drop] <;> omega)
       rw [show (t173).drop (1 : Int).toNat = y187 from Ny187.out.symm] at hr31
       replace hr31 : Kd.F Kd.string _ _ A31 y187.length y187 := (by rw [hA31]; exact hr31)
       rw [← hy31, ← hA31, ← hc31] at hcut31
       have HO191 := Aside0.mk (show Kd.V Kd.string 9 _ w.heap.size _ (.slice A31 y187.length c31) y187 from Kd.V_mk (by rw [hy31, hc31]; exact Nat.sub_le_sub_right hroom31 _) hr31)
       have HC191 := Aside0.mk (show y187.length ≤ c31 from by rw [hy31, hc31]; exact Nat.sub_le_sub_right hroom31 _)
       clear hr31 hC31 hroom31 hi031 hsz31 hc31
       have KY31 := Aside0.mk hy31
       have KA31 := Aside0.mk hA31
       clear hy31 hA31
       replace q31 := eq_true q31
       try go_wp2
       go_loopg [43] k (fun kq v43 w' => ∃ (x43_1 : Int) (x187003_1 : List (S59)) (u187003 : Value), v43 = .int .i64 x43_1 ∧ Aside0 (note_GetTask.l0 kq a1 y187 (y187.length : Int) x43_1 a0_0 a0_1 a0_2 a0_3 l0_4 t181 t183 t185 x187003_1 = some (r1, r2, r3, r4, r5)) ∧ Aside0 (kq ≤ k) ∧ Aside0 (Kd.V Kd.string 9 w' w.heap.size (fun k_ => some k_ ≠ (u187003 : Value).ownBlock ∧ k_ ≠ gb171 ∧ k_ ≠ gb172 ∧ k_ ≠ gb186) (.slice A31 y187.length c31) y187) ∧ Aside0 (Kd.R k59 59 w' w.heap.size (fun _ => True) u187003 x187003_1) ∧ Aside0 (w'.heap[gb171]? = some (.cells #[.int .i64 a0_0, .int .i64 a0_1, .int .i64 a0_2, .int .i64 a0_3, (.slice A0_4 l0_4.length c0_4)] 57 (0, 0))) ∧ Aside0 (w'.heap[gb172]? = some (.cells #[.int .i64 0, .int .i64 0, .int .i64 0, (.slice none 0 0)] 62 (0, 0))) ∧ Aside0 (w'.heap[gb186]? = some (.cells #[.int .i64 t181, .int .i64 t183, .int .i64 t185, u187003] 62 (0, 0))) ∧ Aside0 (Below w.heap.size w w'))
       case atStart => exact ⟨(0), (([] : List (S59))), (.slice none 0 0), (by (rfl)), H', ⟨Nat.le_refl _⟩, ⟨by exact Kd.V_mono HO191.out (fun _ hk => ⟨(by simp [Value.ownBlock]), ⟨hk.1.1.2, ⟨hk.1.2, hk.2⟩⟩⟩)⟩, ⟨by (exact Kd.R_nil _ _ _ _ _)⟩, ⟨BK171.out⟩, ⟨BK172.out⟩, ⟨BK186.out⟩, ⟨HB.out⟩⟩
       case round =>
        clear H'
        try clear q31
        obtain ⟨x43_1, x187003_1, u187003, rfl, HA, HK1, HO_41, HO_187003, BK171, BK172, BK186, HB⟩ := hrel
        cases gk with
        | zero => exact absurd HA.out (by simp [note_GetTask.l0])
        | succ k1 =>
         have H := HA.out
         clear HA
         simp only [note_GetTask.l0] at H
         by_cases c32 : x43_1 < (y187.length : Int)
         ·rw [if_pos c32] at H
          have c32b0 : decide (x43_1 < (y187.length : Int)) = true := decide_eq_true c32
          clear c32
          by_cases c33 : 0 ≤ x43_1
          ·rw [if_pos c33] at H
           have c33b0 : decide (0 ≤ x43_1) = true := decide_eq_true c33
           clear c33
           by_cases c34 : x43_1 < (y187.length : Int)
           ·rw [if_pos c34] at H
            have c34b0 : decide (x43_1 < (y187.length : Int)) = true := decide_eq_true c34
            clear c34
            replace H := Option.bind_eq_some_iff.mp H
            obtain ⟨⟨t193, t194, t195⟩, A350, H⟩ := H
            have A35 := Aside0.mk A350
            clear A350
            replace H := Option.bind_eq_some_iff.mp H
            obtain ⟨⟨t196, t197, t198⟩, A360, H⟩ := H
            have A36 := Aside0.mk A360
            clear A360
            replace H := Option.bind_eq_some_iff.mp H
            obtain ⟨t199, A370, H⟩ := H
            have A37 := Aside0.mk A370
            clear A370
            replace H := Option.bind_eq_some_iff.mp H
            obtain ⟨t200, A380, H⟩ := H
            have A38 := Aside0.mk A380
            clear A380
            replace H := Option.bind_eq_some_iff.mp H
            obtain ⟨t201, A390, H⟩ := H
            have A39 := Aside0.mk A390
            clear A390
            by_cases c40 : x187003_1.length < 5864062014805
            ·rw [if_pos c40] at H
             have LMc40 := Aside0.mk c40
             clear c40
             obtain ⟨y202, hy202⟩ : ∃ y_ : List (S59), y_ = (x187003_1 ++ [(⟨t199, t200, t201⟩ : S59)]) := ⟨_, rfl⟩
             replace H : (note_GetTask.l0 k1 a1 y187 (y187.length : Int) (wrap64 (x43_1 + 1)) a0_0 a0_1 a0_2 a0_3 l0_4 t181 t183 t185 y202) = some (r1, r2, r3, r4, r5) := by (rw [hy202]; with_reducible exact H)
             have Ny202 := Aside0.mk hy202
             clear hy202
             have H' := Aside0.mk H
             clear H
             have p192 : 0 ≤ (x43_1 : Int) := of_decide_eq_true (by (with_reducible assumption))
             have q192 : x43_1 < (y187.length : Int) := of_decide_eq_true (by (with_reducible assumption))
             obtain ⟨ad192, e192, hx192_0⟩ := Kd.at_string (Kd.V_reads' HO_41.out).2.2 x43_1 p192 q192
             cases e192
             replace p192 := eq_true p192
             replace q192 := eq_true q192
             try go_wp2_with (first | ((with_reducible refine gate_callee (f := 74) rfl ?_); refine goesL_ (some 49) rfl rfl Tryz.func74 (by kernel_rfl) rfl #[.string (rdOf ByteArray.empty y187 x43_1), .string (⟨#[64]⟩ : ByteArray)] rfl (by (try simp only [List.map_toArray, List.map_cons, List.map_nil]); (rfl)) ?_; (with_reducible refine (strings_Cut.calls (rdOf ByteArray.empty y187 x43_1) (⟨#[64]⟩ : ByteArray) t193 t194 t195 _ A35.out).mono ?_); rintro e w41 ⟨rfl, hb⟩; refine ⟨_, rfl, ?_⟩; replace HO_41 := Aside0.mk (Kd.V_below HO_41.out hb); replace HO_187003 := Aside0.mk (Kd.R_below HO_187003.out hb); replace BK171 := Aside0.mk (blk_below BK171.out hb); replace BK172 := Aside0.mk (blk_below BK172.out hb); replace BK186 := Aside0.mk (blk_below BK186.out hb); replace HB := Aside0.mk (below_step HB.out hb); (try clear hb); (try clear hb2); (try clear hk); (try clear hi)) | ((with_reducible refine gate_callee (f := 74) rfl ?_); refine goesL_ (some 55) rfl rfl Tryz.func74 (by kernel_rfl) rfl #[.string t194, .string (⟨#[43]⟩ : ByteArray)] rfl (by (try simp only [List.map_toArray, List.map_cons, List.map_nil]); (rfl)) ?_; (with_reducible refine (strings_Cut.calls t194 (⟨#[43]⟩ : ByteArray) t196 t197 t198 _ A36.out).mono ?_); rintro e w42 ⟨rfl, hb⟩; refine ⟨_, rfl, ?_⟩; replace HO_41 := Aside0.mk (Kd.V_below HO_41.out hb); replace HO_187003 := Aside0.mk (Kd.R_below HO_187003.out hb); replace BK171 := Aside0.mk (blk_below BK171.out hb); replace BK172 := Aside0.mk (blk_below BK172.out hb); replace BK186 := Aside0.mk (blk_below BK186.out hb); replace HB := Aside0.mk (below_step HB.out hb); (try clear hb); (try clear hb2); (try clear hk); (try clear hi)))
             replace HO_41 := Aside0.mk (Kd.V_drew HO_41.out)
             replace HO_187003 := Aside0.mk (Kd.R_drew HO_187003.out)
             replace BK171 := Aside0.mk (blk_drew BK171.out)
             replace BK172 := Aside0.mk (blk_drew BK172.out)
             replace BK186 := Aside0.mk (blk_drew BK186.out)
             replace HB := Aside0.mk (below_drew1 HB.out)
             refine start_ (n := 13) (S := fun w' => w'.cell? ⟨gb186, 0, none⟩ = some (.int .i64 t181) ∧ w'.cell? ⟨gb186, 1, none⟩ = some (.int .i64 t183) ∧ w'.cell? ⟨gb186, 2, none⟩ = some (.int .i64 t185) ∧ w'.cell? ⟨gb186, 3, none⟩ = some (u187003)) (ds := [12]) (bs 13 0) (by kernel_rfl) rfl rfl ⟨(blk_cell BK186.out 0).trans rfl, (blk_cell BK186.out 1).trans rfl, (blk_cell BK186.out 2).trans rfl, (blk_cell BK186.out 3).trans rfl⟩ (fun hHeld => ?_); refine with_tabW note_GetTask.tab11 note_GetTask.bits11 (fun HT_ HW_ => ?_)
             generalize w42.drew = w43 at HO_41 HO_187003 BK171 BK172 BK186 HB hHeld ⊢
             refine pureA_ (i := 0) (N := some 59) (bs 13 1) HT_ ?_
             refine pureA_ (i := 2) (N := some 61) (bs 13 5) HT_ ?_
             refine pureA_ (i := 4) (N := some 63) (bs 13 21) HT_ ?_
             refine pureA_ (i := 6) (N := some 65) (bs 13 85) HT_ ?_
             refine takeA_ (i := 1) (N := some 60) (bs 13 87) HT_ HW_ hHeld ?_
             refine one_ (i := 3) (N := some 62) (bs 13 95) rfl rfl (one_of HT_.out (by kernel_rfl)) (by decide) (fun K hK => ?_)
             refine goes_ Tryz.func73 (by kernel_rfl) rfl #[.string t193] (by rfl) rfl rfl (by (try simp only [List.map_toArray, List.map_cons, List.map_nil]); (rfl)) ?_
             with_reducible refine (note_parse.calls t193 t199 _ A37.out).mono ?_
             rintro e w44 ⟨rfl, hb⟩
             refine ⟨_, rfl, ?_⟩
             replace HO_41 := Aside0.mk (Kd.V_below HO_41.out hb)
             replace HO_187003 := Aside0.mk (Kd.R_below HO_187003.out hb)
             replace BK171 := Aside0.mk (blk_below BK171.out hb)
             replace BK172 := Aside0.mk (blk_below BK172.out hb)
             replace BK186 := Aside0.mk (blk_below BK186.out hb)
             replace HB := Aside0.mk (below_step HB.out hb)
             (try clear hb)
             (try clear hb2)
             (try clear hk)
             (try clear hi)
             refine hK.out _ _ ⟨(blk_cell BK186.out 0).trans rfl, (blk_cell BK186.out 1).trans rfl, (blk_cell BK186.out 2).trans rfl, (blk_cell BK186.out 3).trans rfl⟩ (fun hHeld => ?_)
             clear hK K
             refine norm_ (a' := ?_) ?_ ?_
             rotate_left
             ·show Act.put _ (some 62) _ = _
              simp only [Act.put, List.setIfInBounds_toArray, List.set_cons_zero, List.set_cons_succ, i64_w, i32_w]
              rfl
             refine one_ (i := 5) (N := some 64) (bs 13 127) rfl rfl (one_of HT_.out (by kernel_rfl)) (by decide) (fun K hK => ?_)
             refine goes_ Tryz.func73 (by kernel_rfl) rfl #[.string t196] (by rfl) rfl rfl (by (try simp only [List.map_toArray, List.map_cons, List.map_nil]); (rfl)) ?_
             with_reducible refine (note_parse.calls t196 t200 _ A38.out).mono ?_
             rintro e w45 ⟨rfl, hb⟩
             refine ⟨_, rfl, ?_⟩
             replace HO_41 := Aside0.mk (Kd.V_below HO_41.out hb)
             replace HO_187003 := Aside0.mk (Kd.R_below HO_187003.out hb)
             replace BK171 := Aside0.mk (blk_below BK171.out hb)
             replace BK172 := Aside0.mk (blk_below BK172.out hb)
             replace BK186 := Aside0.mk (blk_below BK186.out hb)
             replace HB := Aside0.mk (below_step HB.out hb)
             (try clear hb)
             (try clear hb2)
             (try clear hk)
             (try clear hi)
             refine hK.out _ _ ⟨(blk_cell BK186.out 0).trans rfl, (blk_cell BK186.out 1).trans rfl, (blk_cell BK186.out 2).trans rfl, (blk_cell BK186.out 3).trans rfl⟩ (fun hHeld => ?_)
             clear hK K
             refine norm_ (a' := ?_) ?_ ?_
             rotate_left
             ·show Act.put _ (some 64) _ = _
              simp only [Act.put, List.setIfInBounds_toArray, List.set_cons_zero, List.set_cons_succ, i64_w, i32_w]
              rfl
             refine one_ (i := 7) (N := some 66) (bs 13 255) rfl rfl (one_of HT_.out (by kernel_rfl)) (by decide) (fun K hK => ?_)
             refine goes_ Tryz.func73 (by kernel_rfl) rfl #[.string t197] (by rfl) rfl rfl (by (try simp only [List.map_toArray, List.map_cons, List.map_nil]); (rfl)) ?_
             with_reducible refine (note_parse.calls t197 t201 _ A39.out).mono ?_
             rintro e w46 ⟨rfl, hb⟩
             refine ⟨_, rfl, ?_⟩
             replace HO_41 := Aside0.mk (Kd.V_below HO_41.out hb)
             replace HO_187003 := Aside0.mk (Kd.R_below HO_187003.out hb)
             replace BK171 := Aside0.mk (blk_below BK171.out hb)
             replace BK172 := Aside0.mk (blk_below BK172.out hb)
             replace BK186 := Aside0.mk (blk_below BK186.out hb)
             replace HB := Aside0.mk (below_step HB.out hb)
             (try clear hb)
             (try clear hb2)
             (try clear hk)
             (try clear hi)
             refine hK.out _ _ ⟨(blk_cell BK186.out 0).trans rfl, (blk_cell BK186.out 1).trans rfl, (blk_cell BK186.out 2).trans rfl, (blk_cell BK186.out 3).trans rfl⟩ (fun hHeld => ?_)
             clear hK K
             refine norm_ (a' := ?_) ?_ ?_
             rotate_left
             ·show Act.put _ (some 66) _ = _
              simp only [Act.put, List.setIfInBounds_toArray, List.set_cons_zero, List.set_cons_succ, i64_w, i32_w]
              rfl
             refine pureA_ (i := 8) (N := some 67) (bs 13 511) HT_ ?_
             refine one_ (i := 9) (N := some 68) (bs 13 1023) rfl rfl (one_of HT_.out (by kernel_rfl)) (by decide) (fun K hK => ?_)
             refine value_ (w1 := ?_) (v := ?_) (by rfl) rfl ?_ ?_
             rotate_left 2
             ·go_simp
              constructor
              ·rfl
              ·rfl
             refine hK.out _ _ ⟨(blk_cell (blk_alloc BK186.out _) 0).trans rfl, (blk_cell (blk_alloc BK186.out _) 1).trans rfl, (blk_cell (blk_alloc BK186.out _) 2).trans rfl, (blk_cell (blk_alloc BK186.out _) 3).trans rfl⟩ (fun hHeld => ?_)
             clear hK K
             refine norm_ (a' := ?_) ?_ ?_
             rotate_left
             ·show Act.put _ (some 68) _ = _
              simp only [Act.put, List.setIfInBounds_toArray, List.set_cons_zero, List.set_cons_succ, i64_w, i32_w]
              rfl
             refine one_ (i := 10) (N := some 69) (bs 13 2047) rfl rfl (one_of HT_.out (by kernel_rfl)) (by decide) (fun K hK => ?_)
             refine Kd.R_append_step k59 (w0 := w) w.heap.size (by rfl) (.tmp 60) (.tmp 68) 60 59 (.agg #[(.int .i64 0), (.int .i64 0), (.int .i64 0)]) 24 rfl Tryz.underlying60 info59 rfl (by decide) (by omega) u187003 x187003_1 (⟨t199, t200, t201⟩ : S59) [.int .i64 t199, .int .i64 t200, .int .i64 t201] (fun _ => True) (fun _ => False) rfl rfl ?aP (fun _ hk => hk.elim) ?aF ?aO ?aB ?aS ?aL ?_
             (case aP => exact k59_mkM _ _ _ (⟨t199, t200, t201⟩ : S59))
             (case aB => exact HB.out)
             (case aF => exact (fun _ _ => trivial))
             (case aO => exact HO_187003.out)
             (case aS => exact below_size HB.out)
             (case aL => have := LMc40.out; omega)
             intro v203 w47 ho hb hg hat
             rw [← Ny202.out] at ho
             have HO204 := Aside0.mk (ho)
             replace HO_41 := Aside0.mk (Kd.V_afterv (ok := (fun k_ => k_ ≠ gb171 ∧ k_ ≠ gb172 ∧ k_ ≠ gb186)) (by exact Kd.V_mono HO_41.out (fun _ hk => ⟨⟨hk.2.1, ⟨hk.2.2.1, hk.2.2.2⟩⟩, hk.1⟩)) hg hat)
             replace BK171 := Aside0.mk (blk_grown BK171.out hg (Kd.R_ne HO_187003.out BK171.out (by decide)))
             replace BK172 := Aside0.mk (blk_grown BK172.out hg (Kd.R_ne HO_187003.out BK172.out (by decide)))
             replace BK186 := Aside0.mk (blk_grown BK186.out hg (Kd.R_ne HO_187003.out BK186.out (by decide)))
             replace HB := Aside0.mk (hb)
             clear HO_187003
             clear ho hb hg hat
             obtain ⟨Ao48, co48, eo48⟩ := Kd.R_slice HO204.out
             ((subst eo48))
             refine hK.out _ _ ⟨(blk_cell BK186.out 0).trans rfl, (blk_cell BK186.out 1).trans rfl, (blk_cell BK186.out 2).trans rfl, (blk_cell BK186.out 3).trans rfl⟩ (fun hHeld => ?_)
             clear hK K
             refine norm_ (a' := ?_) ?_ ?_
             rotate_left
             ·show Act.put _ (some 69) _ = _
              simp only [Act.put, List.setIfInBounds_toArray, List.set_cons_zero, List.set_cons_succ, i64_w, i32_w]
              rfl
             refine pureA_ (i := 11) (N := some 70) (bs 13 4095) HT_ ?_
             refine last_ (i := 12) (N := none) (bs 13 8191) rfl rfl (one_of HT_.out (by kernel_rfl)) (by decide) (fun K hK => ?_)
             have hs49 : w47.cell? ⟨gb186, 3, none⟩ = some (u187003) := (blk_cell BK186.out 3).trans rfl
             have hfs49 := blk_frozen BK186.out 3
             have hns49_0 := NB171_186.out
             have hns49_1 := NB172_186.out
             have hms49_0 := NB186_171.out
             have hms49_1 := NB186_172.out
             refine skip_ (w1 := ?_) (by rfl) rfl ?_ ?_
             rotate_left
             ·go_simp
              rfl
             refine hK.out _ _ ?_
             clear hK K
             refine done_ (done_of HT_.out (by kernel_rfl)) ?_
             try go_wp2
             go_roundg k1
             case measure => have := HK1.out; omega
             case rel => exact ⟨(wrap64 (x43_1 + 1)), (y202), (.slice Ao48 y202.length co48), (by (rfl)), H', ⟨by have := HK1.out; omega⟩, ⟨by exact Kd.V_mono (Kd.V_far (p := ⟨gb186, 3, none⟩) (Kd.V_mono HO_41.out (fun k_ hk => (⟨hk, hk.1.2.2⟩ : _ ∧ k_ ≠ gb186))) (fun _ hk => hk.2) (.slice Ao48 y202.length co48)) (fun _ hk => ⟨hk.1.2, ⟨hk.1.1.1, ⟨hk.1.1.2.1, hk.1.1.2.2⟩⟩⟩)⟩, ⟨by exact Kd.R_mono (Kd.R_far (p := ⟨gb186, 3, none⟩) (Kd.R_types HO204.out BK186.out (by decide)) (fun _ hk => hk.2) (.slice Ao48 y202.length co48)) (fun _ hk => trivial)⟩, ⟨by refine blk_far ?_ NB171_186.out _; exact BK171.out⟩, ⟨by refine blk_far ?_ NB172_186.out _; exact BK172.out⟩, ⟨by refine blk_put (cs := #[.int .i64 t181, .int .i64 t183, .int .i64 t185, u187003]) ?_ 3 _ rfl; exact BK186.out⟩, ⟨by repeat ((with_reducible first | exact HB.out | refine below_set ?_ GE186.out))⟩⟩
            ·rw [if_neg c40] at H
             exact absurd H (by simp)
           ·rw [if_neg c34] at H
            exact absurd H (by simp)
          ·rw [if_neg c33] at H
           exact absurd H (by simp)
         ·rw [if_neg c32] at H
          have c32b0 : decide (x43_1 < (y187.length : Int)) = false := decide_eq_false c32
          clear c32
          replace H := Option.bind_eq_some_iff.mp H
          obtain ⟨t205, A500, H⟩ := H
          have A50 := Aside0.mk A500
          clear A500
          by_cases c51 : t205 = true
          ·subst c51
           have H1 : ((rule_Task.f k1 a0_0 a0_1 a0_2 a0_3 l0_4 t181 t183 t185 x187003_1).bind fun t206 => (if t206 = true then ((note_PutTask.f k1 t181 t183 t185 x187003_1).bind fun t207 => (if t207.toList = a1.toList then (some (t181, t183, t185, x187003_1, 0)) else (some (0, 0, 0, ([] : List (S59)), 1)))) else (some (0, 0, 0, ([] : List (S59)), 1)))) = some (r1, r2, r3, r4, r5) := by rw [if_pos rfl] at H; exact H
           clear H
           have H := H1
           clear H1
           replace H := Option.bind_eq_some_iff.mp H
           obtain ⟨t206, A520, H⟩ := H
           have A52 := Aside0.mk A520
           clear A520
           by_cases c53 : t206 = true
           ·subst c53
            have H1 : ((note_PutTask.f k1 t181 t183 t185 x187003_1).bind fun t207 => (if t207.toList = a1.toList then (some (t181, t183, t185, x187003_1, 0)) else (some (0, 0, 0, ([] : List (S59)), 1)))) = some (r1, r2, r3, r4, r5) := by rw [if_pos rfl] at H; exact H
            clear H
            have H := H1
            clear H1
            replace H := Option.bind_eq_some_iff.mp H
            obtain ⟨t207, A540, H⟩ := H
            have A54 := Aside0.mk A540
            clear A540
            by_cases c55 : t207.toList = a1.toList
            ·rw [if_pos c55] at H
             have c55b0 : (t207.toList == a1.toList) = true := beq_iff_eq.mpr c55
             have c55b1 : (t207.toList != a1.toList) = false := bne_eq_false_iff_eq.mpr c55
             clear c55
             simp only [Option.some.injEq, Prod.mk.injEq] at H
             obtain ⟨rfl, rfl, rfl, rfl, rfl⟩ := H
             have hnb56 := NB171_172.out
             have hnc56 := NB172_171.out
             have hnb57 := NB171_186.out
             have hnc57 := NB186_171.out
             have hcz58_0 : wr.cell? ⟨gb171, 0, none⟩ = some (.int .i64 a0_0) := (blk_cell BK171.out 0).trans rfl
             have hcz58_1 : wr.cell? ⟨gb171, 1, none⟩ = some (.int .i64 a0_1) := (blk_cell BK171.out 1).trans rfl
             have hcz58_2 : wr.cell? ⟨gb171, 2, none⟩ = some (.int .i64 a0_2) := (blk_cell BK171.out 2).trans rfl
             have hcz58_3 : wr.cell? ⟨gb171, 3, none⟩ = some (.int .i64 a0_3) := (blk_cell BK171.out 3).trans rfl
             have hcz58_4 : wr.cell? ⟨gb171, 4, none⟩ = some (.slice A0_4 l0_4.length c0_4) := (blk_cell BK171.out 4).trans rfl
             have hfz58_0 := blk_frozen BK171.out 0
             have hfz58_1 := blk_frozen BK171.out 1
             have hfz58_2 := blk_frozen BK171.out 2
             have hfz58_3 := blk_frozen BK171.out 3
             have hfz58_4 := blk_frozen BK171.out 4
             go_wp2_with (first | ((with_reducible refine gate_callee (f := 64) rfl ?_); refine goesL_ (some 73) rfl rfl Tryz.func64 (by kernel_rfl) rfl #[.agg #[.int .i64 a0_0, .int .i64 a0_1, .int .i64 a0_2, .int .i64 a0_3, .slice A0_4 l0_4.length c0_4]] rfl (by (try simp only [List.map_toArray, List.map_cons, List.map_nil]); (rfl)) ?_; (with_reducible refine (rule_Config.calls a0_0 a0_1 a0_2 a0_3 _ _ l0_4 true _ ?side1 ?side2 A50.out).mono ?_); (case side1 => repeat ((exact (Kd.C_below HR0_4.out HB.out)))); (case side2 => exact HC0_4.out); rintro e w59 ⟨rfl, hb⟩; refine ⟨_, rfl, ?_⟩; replace HO_41 := Aside0.mk (Kd.V_below HO_41.out hb); replace HO_187003 := Aside0.mk (Kd.R_below HO_187003.out hb); replace BK171 := Aside0.mk (blk_below BK171.out hb); replace BK172 := Aside0.mk (blk_below BK172.out hb); replace BK186 := Aside0.mk (blk_below BK186.out hb); replace HB := Aside0.mk (below_step HB.out hb); (try clear hb); (try clear hb2); (try clear hk); (try clear hi); have hcz60_0 : w59.cell? ⟨gb171, 0, none⟩ = some (.int .i64 a0_0) := (blk_cell BK171.out 0).trans rfl; have hcz60_1 : w59.cell? ⟨gb171, 1, none⟩ = some (.int .i64 a0_1) := (blk_cell BK171.out 1).trans rfl; have hcz60_2 : w59.cell? ⟨gb171, 2, none⟩ = some (.int .i64 a0_2) := (blk_cell BK171.out 2).trans rfl; have hcz60_3 : w59.cell? ⟨gb171, 3, none⟩ = some (.int .i64 a0_3) := (blk_cell BK171.out 3).trans rfl; have hcz60_4 : w59.cell? ⟨gb171, 4, none⟩ = some (.slice A0_4 l0_4.length c0_4) := (blk_cell BK171.out 4).trans rfl; have hfz60_0 := blk_frozen BK171.out 0; have hfz60_1 := blk_frozen BK171.out 1; have hfz60_2 := blk_frozen BK171.out 2; have hfz60_3 := blk_frozen BK171.out 3; have hfz60_4 := blk_frozen BK171.out 4; have hnb61 := NB186_172.out; have hnc61 := NB172_186.out; have hcz62_0 : w59.cell? ⟨gb186, 0, none⟩ = some (.int .i64 t181) := (blk_cell BK186.out 0).trans rfl; have hcz62_1 : w59.cell? ⟨gb186, 1, none⟩ = some (.int .i64 t183) := (blk_cell BK186.out 1).trans rfl; have hcz62_2 : w59.cell? ⟨gb186, 2, none⟩ = some (.int .i64 t185) := (blk_cell BK186.out 2).trans rfl; have hcz62_3 : w59.cell? ⟨gb186, 3, none⟩ = some (u187003) := (blk_cell BK186.out 3).trans rfl; have hfz62_0 := blk_frozen BK186.out 0; have hfz62_1 := blk_frozen BK186.out 1; have hfz62_2 := blk_frozen BK186.out 2; have hfz62_3 := blk_frozen BK186.out 3; obtain ⟨Ao63, co63, eo63⟩ := Kd.R_slice HO_187003.out; subst eo63) | (go_at_call 65; (with_reducible refine (rule_Task.calls k1 a0_0 a0_1 a0_2 a0_3 _ _ l0_4 t181 t183 t185 _ _ x187003_1 true _ ?side1 ?side2 ?side3 ?side4 A52.out).mono ?_); (case side1 => repeat ((exact (Kd.C_below HR0_4.out HB.out)))); (case side2 => exact HC0_4.out); (case side3 => repeat ((exact (Kd.R_reads' HO_187003.out).2.2))); (case side4 => exact (Kd.R_reads' HO_187003.out).2.1); rintro e w64 ⟨rfl, hb⟩; replace HO_41 := Aside0.mk (Kd.V_below HO_41.out hb); replace HO_187003 := Aside0.mk (Kd.R_below HO_187003.out hb); replace BK171 := Aside0.mk (blk_below BK171.out hb); replace BK172 := Aside0.mk (blk_below BK172.out hb); replace BK186 := Aside0.mk (blk_below BK186.out hb); replace HB := Aside0.mk (below_step HB.out hb); (try clear hb); (try clear hb2); (try clear hk); (try clear hi); have hcz65_0 : w64.cell? ⟨gb186, 0, none⟩ = some (.int .i64 t181) := (blk_cell BK186.out 0).trans rfl; have hcz65_1 : w64.cell? ⟨gb186, 1, none⟩ = some (.int .i64 t183) := (blk_cell BK186.out 1).trans rfl; have hcz65_2 : w64.cell? ⟨gb186, 2, none⟩ = some (.int .i64 t185) := (blk_cell BK186.out 2).trans rfl; have hcz65_3 : w64.cell? ⟨gb186, 3, none⟩ = some (.slice Ao63 x187003_1.length co63) := (blk_cell BK186.out 3).trans rfl; have hfz65_0 := blk_frozen BK186.out 0; have hfz65_1 := blk_frozen BK186.out 1; have hfz65_2 := blk_frozen BK186.out 2; have hfz65_3 := blk_frozen BK186.out 3) | (go_at_call 60; (with_reducible refine (note_PutTask.calls k1 t181 t183 t185 _ _ x187003_1 t207 _ ?side1 ?side2 A54.out).mono ?_); (case side1 => repeat ((exact (Kd.R_reads' HO_187003.out).2.2))); (case side2 => exact (Kd.R_reads' HO_187003.out).2.1); rintro e w66 ⟨rfl, hb⟩; replace HO_41 := Aside0.mk (Kd.V_below HO_41.out hb); replace HO_187003 := Aside0.mk (Kd.R_below HO_187003.out hb); replace BK171 := Aside0.mk (blk_below BK171.out hb); replace BK172 := Aside0.mk (blk_below BK172.out hb); replace BK186 := Aside0.mk (blk_below BK186.out hb); replace HB := Aside0.mk (below_step HB.out hb); (try clear hb); (try clear hb2); (try clear hk); (try clear hi); have hcz67_0 : w66.cell? ⟨gb186, 0, none⟩ = some (.int .i64 t181) := (blk_cell BK186.out 0).trans rfl; have hcz67_1 : w66.cell? ⟨gb186, 1, none⟩ = some (.int .i64 t183) := (blk_cell BK186.out 1).trans rfl; have hcz67_2 : w66.cell? ⟨gb186, 2, none⟩ = some (.int .i64 t185) := (blk_cell BK186.out 2).trans rfl; have hcz67_3 : w66.cell? ⟨gb186, 3, none⟩ = some (.slice Ao63 x187003_1.length co63) := (blk_cell BK186.out 3).trans rfl; have hfz67_0 := blk_frozen BK186.out 0; have hfz67_1 := blk_frozen BK186.out 1; have hfz67_2 := blk_frozen BK186.out 2; have hfz67_3 := blk_frozen BK186.out 3; have hcz68_0 : w66.cell? ⟨gb172, 0, none⟩ = some (.int .i64 0) := (blk_cell BK172.out 0).trans rfl; have hcz68_1 : w66.cell? ⟨gb172, 1, none⟩ = some (.int .i64 0) := (blk_cell BK172.out 1).trans rfl; have hcz68_2 : w66.cell? ⟨gb172, 2, none⟩ = some (.int .i64 0) := (blk_cell BK172.out 2).trans rfl; have hcz68_3 : w66.cell? ⟨gb172, 3, none⟩ = some (.slice none 0 0) := (blk_cell BK172.out 3).trans rfl; have hfz68_0 := blk_frozen BK172.out 0; have hfz68_1 := blk_frozen BK172.out 1; have hfz68_2 := blk_frozen BK172.out 2; have hfz68_3 := blk_frozen BK172.out 3))
             refine bodyPost_ret (results_ct rfl _ _ gb172 62 #[.int .i64 t181, .int .i64 t183, .int .i64 t185, .slice Ao63 x187003_1.length co63] (0, 0) _ rfl (by refine blk_put (cs := #[.int .i64 t181, .int .i64 t183, .int .i64 t185, .slice none 0 0]) ?_ 3 _ rfl; refine blk_put (cs := #[.int .i64 t181, .int .i64 t183, .int .i64 0, .slice none 0 0]) ?_ 2 _ rfl; refine blk_put (cs := #[.int .i64 t181, .int .i64 0, .int .i64 0, .slice none 0 0]) ?_ 1 _ rfl; refine blk_put (cs := #[.int .i64 0, .int .i64 0, .int .i64 0, .slice none 0 0]) ?_ 0 _ rfl; exact BK172.out) Tryz.underlying62 rfl (by kernel_rfl)) rfl ?_
             exact ⟨_, by (rfl), by exact Kd.R_mono (Kd.R_far (p := ⟨gb172, 3, none⟩) (Kd.R_far (p := ⟨gb172, 2, none⟩) (Kd.R_far (p := ⟨gb172, 1, none⟩) (Kd.R_far (p := ⟨gb172, 0, none⟩) (Kd.R_types HO_187003.out BK172.out (by decide)) (fun _ hk => hk.2) (.int .i64 t181)) (fun _ hk => hk.2) (.int .i64 t183)) (fun _ hk => hk.2) (.int .i64 t185)) (fun _ hk => hk.2) (.slice Ao63 x187003_1.length co63)) (fun _ hk => trivial), by repeat ((with_reducible first | exact HB.out | refine below_set ?_ GE172.out))⟩
            ·rw [if_neg c55] at H
             have c55b0 : (t207.toList == a1.toList) = false := beq_eq_false_iff_ne.mpr c55
             have c55b1 : (t207.toList != a1.toList) = true := bne_iff_ne.mpr c55
             simp only [Option.some.injEq, Prod.mk.injEq] at H
             obtain ⟨rfl, rfl, rfl, rfl, rfl⟩ := H
             have hnb69 := NB171_172.out
             have hnc69 := NB172_171.out
             have hnb70 := NB171_186.out
             have hnc70 := NB186_171.out
             have hcz71_0 : wr.cell? ⟨gb171, 0, none⟩ = some (.int .i64 a0_0) := (blk_cell BK171.out 0).trans rfl
             have hcz71_1 : wr.cell? ⟨gb171, 1, none⟩ = some (.int .i64 a0_1) := (blk_cell BK171.out 1).trans rfl
             have hcz71_2 : wr.cell? ⟨gb171, 2, none⟩ = some (.int .i64 a0_2) := (blk_cell BK171.out 2).trans rfl
             have hcz71_3 : wr.cell? ⟨gb171, 3, none⟩ = some (.int .i64 a0_3) := (blk_cell BK171.out 3).trans rfl
             have hcz71_4 : wr.cell? ⟨gb171, 4, none⟩ = some (.slice A0_4 l0_4.length c0_4) := (blk_cell BK171.out 4).trans rfl
             have hfz71_0 := blk_frozen BK171.out 0
             have hfz71_1 := blk_frozen BK171.out 1
             have hfz71_2 := blk_frozen BK171.out 2
             have hfz71_3 := blk_frozen BK171.out 3
             have hfz71_4 := blk_frozen BK171.out 4
             go_wp2_with (first | ((with_reducible refine gate_callee (f := 64) rfl ?_); refine goesL_ (some 73) rfl rfl Tryz.func64 (by kernel_rfl) rfl #[.agg #[.int .i64 a0_0, .int .i64 a0_1, .int .i64 a0_2, .int .i64 a0_3, .slice A0_4 l0_4.length c0_4]] rfl (by (try simp only [List.map_toArray, List.map_cons, List.map_nil]); (rfl)) ?_; (with_reducible refine (rule_Config.calls a0_0 a0_1 a0_2 a0_3 _ _ l0_4 true _ ?side1 ?side2 A50.out).mono ?_); (case side1 => repeat ((exact (Kd.C_below HR0_4.out HB.out)))); (case side2 => exact HC0_4.out); rintro e w72 ⟨rfl, hb⟩; refine ⟨_, rfl, ?_⟩; replace HO_41 := Aside0.mk (Kd.V_below HO_41.out hb); replace HO_187003 := Aside0.mk (Kd.R_below HO_187003.out hb); replace BK171 := Aside0.mk (blk_below BK171.out hb); replace BK172 := Aside0.mk (blk_below BK172.out hb); replace BK186 := Aside0.mk (blk_below BK186.out hb); replace HB := Aside0.mk (below_step HB.out hb); (try clear hb); (try clear hb2); (try clear hk); (try clear hi); have hcz73_0 : w72.cell? ⟨gb171, 0, none⟩ = some (.int .i64 a0_0) := (blk_cell BK171.out 0).trans rfl; have hcz73_1 : w72.cell? ⟨gb171, 1, none⟩ = some (.int .i64 a0_1) := (blk_cell BK171.out 1).trans rfl; have hcz73_2 : w72.cell? ⟨gb171, 2, none⟩ = some (.int .i64 a0_2) := (blk_cell BK171.out 2).trans rfl; have hcz73_3 : w72.cell? ⟨gb171, 3, none⟩ = some (.int .i64 a0_3) := (blk_cell BK171.out 3).trans rfl; have hcz73_4 : w72.cell? ⟨gb171, 4, none⟩ = some (.slice A0_4 l0_4.length c0_4) := (blk_cell BK171.out 4).trans rfl; have hfz73_0 := blk_frozen BK171.out 0; have hfz73_1 := blk_frozen BK171.out 1; have hfz73_2 := blk_frozen BK171.out 2; have hfz73_3 := blk_frozen BK171.out 3; have hfz73_4 := blk_frozen BK171.out 4; have hnb74 := NB186_172.out; have hnc74 := NB172_186.out; have hcz75_0 : w72.cell? ⟨gb186, 0, none⟩ = some (.int .i64 t181) := (blk_cell BK186.out 0).trans rfl; have hcz75_1 : w72.cell? ⟨gb186, 1, none⟩ = some (.int .i64 t183) := (blk_cell BK186.out 1).trans rfl; have hcz75_2 : w72.cell? ⟨gb186, 2, none⟩ = some (.int .i64 t185) := (blk_cell BK186.out 2).trans rfl; have hcz75_3 : w72.cell? ⟨gb186, 3, none⟩ = some (u187003) := (blk_cell BK186.out 3).trans rfl; have hfz75_0 := blk_frozen BK186.out 0; have hfz75_1 := blk_frozen BK186.out 1; have hfz75_2 := blk_frozen BK186.out 2; have hfz75_3 := blk_frozen BK186.out 3; obtain ⟨Ao76, co76, eo76⟩ := Kd.R_slice HO_187003.out; subst eo76) | (go_at_call 65; (with_reducible refine (rule_Task.calls k1 a0_0 a0_1 a0_2 a0_3 _ _ l0_4 t181 t183 t185 _ _ x187003_1 true _ ?side1 ?side2 ?side3 ?side4 A52.out).mono ?_); (case side1 => repeat ((exact (Kd.C_below HR0_4.out HB.out)))); (case side2 => exact HC0_4.out); (case side3 => repeat ((exact (Kd.R_reads' HO_187003.out).2.2))); (case side4 => exact (Kd.R_reads' HO_187003.out).2.1); rintro e w77 ⟨rfl, hb⟩; replace HO_41 := Aside0.mk (Kd.V_below HO_41.out hb); replace HO_187003 := Aside0.mk (Kd.R_below HO_187003.out hb); replace BK171 := Aside0.mk (blk_below BK171.out hb); replace BK172 := Aside0.mk (blk_below BK172.out hb); replace BK186 := Aside0.mk (blk_below BK186.out hb); replace HB := Aside0.mk (below_step HB.out hb); (try clear hb); (try clear hb2); (try clear hk); (try clear hi); have hcz78_0 : w77.cell? ⟨gb186, 0, none⟩ = some (.int .i64 t181) := (blk_cell BK186.out 0).trans rfl; have hcz78_1 : w77.cell? ⟨gb186, 1, none⟩ = some (.int .i64 t183) := (blk_cell BK186.out 1).trans rfl; have hcz78_2 : w77.cell? ⟨gb186, 2, none⟩ = some (.int .i64 t185) := (blk_cell BK186.out 2).trans rfl; have hcz78_3 : w77.cell? ⟨gb186, 3, none⟩ = some (.slice Ao76 x187003_1.length co76) := (blk_cell BK186.out 3).trans rfl; have hfz78_0 := blk_frozen BK186.out 0; have hfz78_1 := blk_frozen BK186.out 1; have hfz78_2 := blk_frozen BK186.out 2; have hfz78_3 := blk_frozen BK186.out 3) | (go_at_call 60; (with_reducible refine (note_PutTask.calls k1 t181 t183 t185 _ _ x187003_1 t207 _ ?side1 ?side2 A54.out).mono ?_); (case side1 => repeat ((exact (Kd.R_reads' HO_187003.out).2.2))); (case side2 => exact (Kd.R_reads' HO_187003.out).2.1); rintro e w79 ⟨rfl, hb⟩; replace HO_41 := Aside0.mk (Kd.V_below HO_41.out hb); replace HO_187003 := Aside0.mk (Kd.R_below HO_187003.out hb); replace BK171 := Aside0.mk (blk_below BK171.out hb); replace BK172 := Aside0.mk (blk_below BK172.out hb); replace BK186 := Aside0.mk (blk_below BK186.out hb); replace HB := Aside0.mk (below_step HB.out hb); (try clear hb); (try clear hb2); (try clear hk); (try clear hi); have hcz80_0 : w79.cell? ⟨gb172, 0, none⟩ = some (.int .i64 0) := (blk_cell BK172.out 0).trans rfl; have hcz80_1 : w79.cell? ⟨gb172, 1, none⟩ = some (.int .i64 0) := (blk_cell BK172.out 1).trans rfl; have hcz80_2 : w79.cell? ⟨gb172, 2, none⟩ = some (.int .i64 0) := (blk_cell BK172.out 2).trans rfl; have hcz80_3 : w79.cell? ⟨gb172, 3, none⟩ = some (.slice none 0 0) := (blk_cell BK172.out 3).trans rfl; have hfz80_0 := blk_frozen BK172.out 0; have hfz80_1 := blk_frozen BK172.out 1; have hfz80_2 := blk_frozen BK172.out 2; have hfz80_3 := blk_frozen BK172.out 3))
             refine bodyPost_ret (results_ct rfl _ _ gb172 62 #[.int .i64 0, .int .i64 0, .int .i64 0, .slice none 0 0] (0, 0) _ rfl (by refine blk_put (cs := #[.int .i64 0, .int .i64 0, .int .i64 0, .slice none 0 0]) ?_ 3 _ rfl; refine blk_put (cs := #[.int .i64 0, .int .i64 0, .int .i64 0, .slice none 0 0]) ?_ 2 _ rfl; refine blk_put (cs := #[.int .i64 0, .int .i64 0, .int .i64 0, .slice none 0 0]) ?_ 1 _ rfl; refine blk_put (cs := #[.int .i64 0, .int .i64 0, .int .i64 0, .slice none 0 0]) ?_ 0 _ rfl; exact BK172.out) Tryz.underlying62 rfl (by kernel_rfl)) rfl ?_
             exact ⟨_, by (rfl), by (exact Kd.R_nil _ _ _ _ _), by repeat ((with_reducible first | exact HB.out | refine below_set ?_ GE172.out))⟩
           ·replace c53 := Bool.eq_false_iff.mpr c53
            subst c53
            have H1 : (some (0, 0, 0, ([] : List (S59)), 1)) = some (r1, r2, r3, r4, r5) := by rw [if_neg (show ¬ (false = true) by decide)] at H; exact H
            clear H
            have H := H1
            clear H1
            simp only [Option.some.injEq, Prod.mk.injEq] at H
            obtain ⟨rfl, rfl, rfl, rfl, rfl⟩ := H
            have hnb81 := NB171_172.out
            have hnc81 := NB172_171.out
            have hnb82 := NB171_186.out
            have hnc82 := NB186_171.out
            have hcz83_0 : wr.cell? ⟨gb171, 0, none⟩ = some (.int .i64 a0_0) := (blk_cell BK171.out 0).trans rfl
            have hcz83_1 : wr.cell? ⟨gb171, 1, none⟩ = some (.int .i64 a0_1) := (blk_cell BK171.out 1).trans rfl
            have hcz83_2 : wr.cell? ⟨gb171, 2, none⟩ = some (.int .i64 a0_2) := (blk_cell BK171.out 2).trans rfl
            have hcz83_3 : wr.cell? ⟨gb171, 3, none⟩ = some (.int .i64 a0_3) := (blk_cell BK171.out 3).trans rfl
            have hcz83_4 : wr.cell? ⟨gb171, 4, none⟩ = some (.slice A0_4 l0_4.length c0_4) := (blk_cell BK171.out 4).trans rfl
            have hfz83_0 := blk_frozen BK171.out 0
            have hfz83_1 := blk_frozen BK171.out 1
            have hfz83_2 := blk_frozen BK171.out 2
            have hfz83_3 := blk_frozen BK171.out 3
            have hfz83_4 := blk_frozen BK171.out 4
            go_wp2_with (first | ((with_reducible refine gate_callee (f := 64) rfl ?_); refine goesL_ (some 73) rfl rfl Tryz.func64 (by kernel_rfl) rfl #[.agg #[.int .i64 a0_0, .int .i64 a0_1, .int .i64 a0_2, .int .i64 a0_3, .slice A0_4 l0_4.length c0_4]] rfl (by (try simp only [List.map_toArray, List.map_cons, List.map_nil]); (rfl)) ?_; (with_reducible refine (rule_Config.calls a0_0 a0_1 a0_2 a0_3 _ _ l0_4 true _ ?side1 ?side2 A50.out).mono ?_); (case side1 => repeat ((exact (Kd.C_below HR0_4.out HB.out)))); (case side2 => exact HC0_4.out); rintro e w84 ⟨rfl, hb⟩; refine ⟨_, rfl, ?_⟩; replace HO_41 := Aside0.mk (Kd.V_below HO_41.out hb); replace HO_187003 := Aside0.mk (Kd.R_below HO_187003.out hb); replace BK171 := Aside0.mk (blk_below BK171.out hb); replace BK172 := Aside0.mk (blk_below BK172.out hb); replace BK186 := Aside0.mk (blk_below BK186.out hb); replace HB := Aside0.mk (below_step HB.out hb); (try clear hb); (try clear hb2); (try clear hk); (try clear hi); have hcz85_0 : w84.cell? ⟨gb171, 0, none⟩ = some (.int .i64 a0_0) := (blk_cell BK171.out 0).trans rfl; have hcz85_1 : w84.cell? ⟨gb171, 1, none⟩ = some (.int .i64 a0_1) := (blk_cell BK171.out 1).trans rfl; have hcz85_2 : w84.cell? ⟨gb171, 2, none⟩ = some (.int .i64 a0_2) := (blk_cell BK171.out 2).trans rfl; have hcz85_3 : w84.cell? ⟨gb171, 3, none⟩ = some (.int .i64 a0_3) := (blk_cell BK171.out 3).trans rfl; have hcz85_4 : w84.cell? ⟨gb171, 4, none⟩ = some (.slice A0_4 l0_4.length c0_4) := (blk_cell BK171.out 4).trans rfl; have hfz85_0 := blk_frozen BK171.out 0; have hfz85_1 := blk_frozen BK171.out 1; have hfz85_2 := blk_frozen BK171.out 2; have hfz85_3 := blk_frozen BK171.out 3; have hfz85_4 := blk_frozen BK171.out 4; have hnb86 := NB186_172.out; have hnc86 := NB172_186.out; have hcz87_0 : w84.cell? ⟨gb186, 0, none⟩ = some (.int .i64 t181) := (blk_cell BK186.out 0).trans rfl; have hcz87_1 : w84.cell? ⟨gb186, 1, none⟩ = some (.int .i64 t183) := (blk_cell BK186.out 1).trans rfl; have hcz87_2 : w84.cell? ⟨gb186, 2, none⟩ = some (.int .i64 t185) := (blk_cell BK186.out 2).trans rfl; have hcz87_3 : w84.cell? ⟨gb186, 3, none⟩ = some (u187003) := (blk_cell BK186.out 3).trans rfl; have hfz87_0 := blk_frozen BK186.out 0; have hfz87_1 := blk_frozen BK186.out 1; have hfz87_2 := blk_frozen BK186.out 2; have hfz87_3 := blk_frozen BK186.out 3; obtain ⟨Ao88, co88, eo88⟩ := Kd.R_slice HO_187003.out; subst eo88) | (go_at_call 65; (with_reducible refine (rule_Task.calls k1 a0_0 a0_1 a0_2 a0_3 _ _ l0_4 t181 t183 t185 _ _ x187003_1 false _ ?side1 ?side2 ?side3 ?side4 A52.out).mono ?_); (case side1 => repeat ((exact (Kd.C_below HR0_4.out HB.out)))); (case side2 => exact HC0_4.out); (case side3 => repeat ((exact (Kd.R_reads' HO_187003.out).2.2))); (case side4 => exact (Kd.R_reads' HO_187003.out).2.1); rintro e w89 ⟨rfl, hb⟩; replace HO_41 := Aside0.mk (Kd.V_below HO_41.out hb); replace HO_187003 := Aside0.mk (Kd.R_below HO_187003.out hb); replace BK171 := Aside0.mk (blk_below BK171.out hb); replace BK172 := Aside0.mk (blk_below BK172.out hb); replace BK186 := Aside0.mk (blk_below BK186.out hb); replace HB := Aside0.mk (below_step HB.out hb); (try clear hb); (try clear hb2); (try clear hk); (try clear hi); have hcz90_0 : w89.cell? ⟨gb172, 0, none⟩ = some (.int .i64 0) := (blk_cell BK172.out 0).trans rfl; have hcz90_1 : w89.cell? ⟨gb172, 1, none⟩ = some (.int .i64 0) := (blk_cell BK172.out 1).trans rfl; have hcz90_2 : w89.cell? ⟨gb172, 2, none⟩ = some (.int .i64 0) := (blk_cell BK172.out 2).trans rfl; have hcz90_3 : w89.cell? ⟨gb172, 3, none⟩ = some (.slice none 0 0) := (blk_cell BK172.out 3).trans rfl; have hfz90_0 := blk_frozen BK172.out 0; have hfz90_1 := blk_frozen BK172.out 1; have hfz90_2 := blk_frozen BK172.out 2; have hfz90_3 := blk_frozen BK172.out 3))
            refine bodyPost_ret (results_ct rfl _ _ gb172 62 #[.int .i64 0, .int .i64 0, .int .i64 0, .slice none 0 0] (0, 0) _ rfl (by refine blk_put (cs := #[.int .i64 0, .int .i64 0, .int .i64 0, .slice none 0 0]) ?_ 3 _ rfl; refine blk_put (cs := #[.int .i64 0, .int .i64 0, .int .i64 0, .slice none 0 0]) ?_ 2 _ rfl; refine blk_put (cs := #[.int .i64 0, .int .i64 0, .int .i64 0, .slice none 0 0]) ?_ 1 _ rfl; refine blk_put (cs := #[.int .i64 0, .int .i64 0, .int .i64 0, .slice none 0 0]) ?_ 0 _ rfl; exact BK172.out) Tryz.underlying62 rfl (by kernel_rfl)) rfl ?_
            exact ⟨_, by (rfl), by (exact Kd.R_nil _ _ _ _ _), by repeat ((with_reducible first | exact HB.out | refine below_set ?_ GE172.out))⟩
          ·replace c51 := Bool.eq_false_iff.mpr c51
           subst c51
           have H1 : (some (0, 0, 0, ([] : List (S59)), 1)) = some (r1, r2, r3, r4, r5) := by rw [if_neg (show ¬ (false = true) by decide)] at H; exact H
           clear H
           have H := H1
           clear H1
           simp only [Option.some.injEq, Prod.mk.injEq] at H
           obtain ⟨rfl, rfl, rfl, rfl, rfl⟩ := H
           have hnb91 := NB171_172.out
           have hnc91 := NB172_171.out
           have hnb92 := NB171_186.out
           have hnc92 := NB186_171.out
           have hcz93_0 : wr.cell? ⟨gb171, 0, none⟩ = some (.int .i64 a0_0) := (blk_cell BK171.out 0).trans rfl
           have hcz93_1 : wr.cell? ⟨gb171, 1, none⟩ = some (.int .i64 a0_1) := (blk_cell BK171.out 1).trans rfl
           have hcz93_2 : wr.cell? ⟨gb171, 2, none⟩ = some (.int .i64 a0_2) := (blk_cell BK171.out 2).trans rfl
           have hcz93_3 : wr.cell? ⟨gb171, 3, none⟩ = some (.int .i64 a0_3) := (blk_cell BK171.out 3).trans rfl
           have hcz93_4 : wr.cell? ⟨gb171, 4, none⟩ = some (.slice A0_4 l0_4.length c0_4) := (blk_cell BK171.out 4).trans rfl
           have hfz93_0 := blk_frozen BK171.out 0
           have hfz93_1 := blk_frozen BK171.out 1
           have hfz93_2 := blk_frozen BK171.out 2
           have hfz93_3 := blk_frozen BK171.out 3
           have hfz93_4 := blk_frozen BK171.out 4
           go_wp2_with (((with_reducible refine gate_callee (f := 64) rfl ?_); refine goesL_ (some 73) rfl rfl Tryz.func64 (by kernel_rfl) rfl #[.agg #[.int .i64 a0_0, .int .i64 a0_1, .int .i64 a0_2, .int .i64 a0_3, .slice A0_4 l0_4.length c0_4]] rfl (by (try simp only [List.map_toArray, List.map_cons, List.map_nil]); (rfl)) ?_; (with_reducible refine (rule_Config.calls a0_0 a0_1 a0_2 a0_3 _ _ l0_4 false _ ?side1 ?side2 A50.out).mono ?_); (case side1 => repeat ((exact (Kd.C_below HR0_4.out HB.out)))); (case side2 => exact HC0_4.out); rintro e w94 ⟨rfl, hb⟩; refine ⟨_, rfl, ?_⟩; replace HO_41 := Aside0.mk (Kd.V_below HO_41.out hb); replace HO_187003 := Aside0.mk (Kd.R_below HO_187003.out hb); replace BK171 := Aside0.mk (blk_below BK171.out hb); replace BK172 := Aside0.mk (blk_below BK172.out hb); replace BK186 := Aside0.mk (blk_below BK186.out hb); replace HB := Aside0.mk (below_step HB.out hb); (try clear hb); (try clear hb2); (try clear hk); (try clear hi); have hnb95 := NB172_186.out; have hnc95 := NB186_172.out; have hcz96_0 : w94.cell? ⟨gb172, 0, none⟩ = some (.int .i64 0) := (blk_cell BK172.out 0).trans rfl; have hcz96_1 : w94.cell? ⟨gb172, 1, none⟩ = some (.int .i64 0) := (blk_cell BK172.out 1).trans rfl; have hcz96_2 : w94.cell? ⟨gb172, 2, none⟩ = some (.int .i64 0) := (blk_cell BK172.out 2).trans rfl; have hcz96_3 : w94.cell? ⟨gb172, 3, none⟩ = some (.slice none 0 0) := (blk_cell BK172.out 3).trans rfl; have hfz96_0 := blk_frozen BK172.out 0; have hfz96_1 := blk_frozen BK172.out 1; have hfz96_2 := blk_frozen BK172.out 2; have hfz96_3 := blk_frozen BK172.out 3))
           refine bodyPost_ret (results_ct rfl _ _ gb172 62 #[.int .i64 0, .int .i64 0, .int .i64 0, .slice none 0 0] (0, 0) _ rfl (by refine blk_put (cs := #[.int .i64 0, .int .i64 0, .int .i64 0, .slice none 0 0]) ?_ 3 _ rfl; refine blk_put (cs := #[.int .i64 0, .int .i64 0, .int .i64 0, .slice none 0 0]) ?_ 2 _ rfl; refine blk_put (cs := #[.int .i64 0, .int .i64 0, .int .i64 0, .slice none 0 0]) ?_ 1 _ rfl; refine blk_put (cs := #[.int .i64 0, .int .i64 0, .int .i64 0, .slice none 0 0]) ?_ 0 _ rfl; exact BK172.out) Tryz.underlying62 rfl (by kernel_rfl)) rfl ?_
           exact ⟨_, by (rfl), by (exact Kd.R_nil _ _ _ _ _), by repeat ((with_reducible first | exact HB.out | refine below_set ?_ GE172.out))⟩
      ·rw [if_neg c13] at H
       exact absurd H (by simp)
     ·rw [if_neg c11] at H
      exact absurd H (by simp)
    ·rw [if_neg c9] at H
     exact absurd H (by simp)
   ·rw [if_neg c7] at H
    exact absurd H (by simp)
  ·rw [if_neg c6] at H
   have c6b0 : ((t177.length : Int) == 3) = false := beq_eq_false_iff_ne.mpr c6
   have c6b1 : ((t177.length : Int) != 3) = true := bne_iff_ne.mpr c6
   simp only [Option.some.injEq, Prod.mk.injEq] at H
   obtain ⟨rfl, rfl, rfl, rfl, rfl⟩ := H
   go_enter Tryz.func62, Tryz.ntmps62
   go_wp2_with (first | ((with_reducible refine gate_dst (N := 2) rfl ?_); refine box_event ?hg (N := 2) ?hd (cs := #[.int .i64 a0_0, .int .i64 a0_1, .int .i64 a0_2, .int .i64 a0_3, .slice A0_4 l0_4.length c0_4]) (t := 57) ?hr ?_; (case hd => rfl); (case hg => rfl); (case hr => (go_simp; done)); intro gb171 hg w97 hbox hb; have BK171 := Aside0.mk (hbox); have GW171 := Aside0.mk ((by rw [hg]; exact below_size HB.out : w.heap.size ≤ gb171)); have GE171 := Aside0.mk ((by rw [hg]; exact below_size HB.out : w.heap.size ≤ gb171)); replace HB := Aside0.mk (below_step HB.out hb); clear hb hbox hg) | ((with_reducible refine gate_dst (N := 4) rfl ?_); refine box_event ?hg (N := 4) ?hd (cs := #[.int .i64 0, .int .i64 0, .int .i64 0, .slice none 0 0]) (t := 62) ?hr ?_; (case hd => rfl); (case hg => rfl); (case hr => (go_simp; done)); intro gb172 hg w98 hbox hb; have BK172 := Aside0.mk (hbox); have GW172 := Aside0.mk ((by rw [hg]; exact below_size HB.out : w.heap.size ≤ gb172)); have GE172 := Aside0.mk ((by rw [hg]; exact below_size HB.out : w.heap.size ≤ gb172)); have NB171_172 := Aside0.mk ((by rw [hg]; exact Nat.ne_of_lt (blk_lt BK171.out) : gb171 ≠ gb172)); have NB172_171 := Aside0.mk ((by rw [hg]; exact Nat.ne_of_gt (blk_lt BK171.out) : gb172 ≠ gb171)); replace BK171 := Aside0.mk (blk_below BK171.out hb); replace HB := Aside0.mk (below_step HB.out hb); clear hb hbox hg) | ((with_reducible refine gate_callee (f := 72) rfl ?_); refine goesL_ (some 18) rfl rfl Tryz.func72 (by kernel_rfl) rfl #[.string a1, .string (⟨#[32]⟩ : ByteArray)] rfl (by (try simp only [List.map_toArray, List.map_cons, List.map_nil]); (rfl)) ?_; (with_reducible refine (strings_Split.calls a1 (⟨#[32]⟩ : ByteArray) t173 _ A3.out).mono ?_); rintro e w99 ⟨v174, rfl, ho0, hb⟩; refine ⟨_, rfl, ?_⟩; have HO175 := Aside0.mk (Kd.R_lower ho0 (below_size HB.out)); replace BK171 := Aside0.mk (blk_below BK171.out hb); replace BK172 := Aside0.mk (blk_below BK172.out hb); replace HB := Aside0.mk (below_step HB.out hb); (try clear hb); (try clear hb2); (try clear hk); (try clear hi); (try clear ho0); obtain ⟨Ao100, co100, eo100⟩ := Kd.R_slice HO175.out; subst eo100; have p176 : 0 ≤ (0 : Int) := (by omega); have q176 : 0 < (t173.length : Int) := of_decide_eq_true (by (with_reducible assumption)); obtain ⟨ad176, e176, hx176_0⟩ := Kd.at_string (Kd.R_reads' HO175.out).2.2 0 p176 q176; cases e176; have qi176 : (0 < t173.length) = True := eq_true (by omega); (try rw [show ((0 : Int)).toNat = 0 from rfl] at hx176_0); (try rw [Addr.add_zero'] at hx176_0); replace p176 := eq_true p176; replace q176 := eq_true q176) | ((with_reducible refine gate_callee (f := 72) rfl ?_); refine goesL_ (some 22) rfl rfl Tryz.func72 (by kernel_rfl) rfl #[.string (rdOf ByteArray.empty t173 0), .string (⟨#[47]⟩ : ByteArray)] rfl (by (try simp only [List.map_toArray, List.map_cons, List.map_nil]); (rfl)) ?_; (with_reducible refine (strings_Split.calls (rdOf ByteArray.empty t173 0) (⟨#[47]⟩ : ByteArray) t177 _ A5.out).mono ?_); rintro e w101 ⟨v178, rfl, ho0, hb⟩; refine ⟨_, rfl, ?_⟩; have HO179 := Aside0.mk (Kd.R_lower (Kd.R_new' ho0 (Kd.R_lt HO175.out)) (below_size HB.out)); replace HO175 := Aside0.mk (Kd.R_elder' HO175.out (Kd.R_base ho0) hb); replace BK171 := Aside0.mk (blk_below BK171.out hb); replace BK172 := Aside0.mk (blk_below BK172.out hb); replace HB := Aside0.mk (below_step HB.out hb); (try clear hb); (try clear hb2); (try clear hk); (try clear hi); (try clear ho0); obtain ⟨Ao102, co102, eo102⟩ := Kd.R_slice HO179.out; subst eo102; have hnb103 := NB172_171.out; have hnc103 := NB171_172.out; have hcz104_0 : w101.cell? ⟨gb172, 0, none⟩ = some (.int .i64 0) := (blk_cell BK172.out 0).trans rfl; have hcz104_1 : w101.cell? ⟨gb172, 1, none⟩ = some (.int .i64 0) := (blk_cell BK172.out 1).trans rfl; have hcz104_2 : w101.cell? ⟨gb172, 2, none⟩ = some (.int .i64 0) := (blk_cell BK172.out 2).trans rfl; have hcz104_3 : w101.cell? ⟨gb172, 3, none⟩ = some (.slice none 0 0) := (blk_cell BK172.out 3).trans rfl; have hfz104_0 := blk_frozen BK172.out 0; have hfz104_1 := blk_frozen BK172.out 1; have hfz104_2 := blk_frozen BK172.out 2; have hfz104_3 := blk_frozen BK172.out 3))
   refine bodyPost_ret (results_ct rfl _ _ gb172 62 #[.int .i64 0, .int .i64 0, .int .i64 0, .slice none 0 0] (0, 0) _ rfl (by refine blk_put (cs := #[.int .i64 0, .int .i64 0, .int .i64 0, .slice none 0 0]) ?_ 3 _ rfl; refine blk_put (cs := #[.int .i64 0, .int .i64 0, .int .i64 0, .slice none 0 0]) ?_ 2 _ rfl; refine blk_put (cs := #[.int .i64 0, .int .i64 0, .int .i64 0, .slice none 0 0]) ?_ 1 _ rfl; refine blk_put (cs := #[.int .i64 0, .int .i64 0, .int .i64 0, .slice none 0 0]) ?_ 0 _ rfl; exact BK172.out) Tryz.underlying62 rfl (by kernel_rfl)) rfl ?_
   exact ⟨_, by (rfl), by (exact Kd.R_nil _ _ _ _ _), by repeat ((with_reducible first | exact HB.out | refine below_set ?_ GE172.out))⟩
 ·rw [if_neg c4] at H
  exact absurd H (by simp)

end Go.Proofs.YtddepomgaeadpaaGreatDoor.PBeg
