-- Written by a program of this session (wip/pp.py) over the kit's print, with hand-proved contracts beside it.
import Derived.Test.YtddepomgaeadpaaGreatDoorWz
import Derived.Test.YtddepomgaeadpaaGreatDoorPBegx0
import Derived.Test.YtddepomgaeadpaaGreatDoorPBegx4
import Derived.Test.YtddepomgaeadpaaGreatDoorPBegx7
namespace Go.Proofs.YtddepomgaeadpaaGreatDoor.PBeg
open Go.Shelf Go.Lib Go.RowKit Go.Proofs.YtddepomgaeadpaaGreatDoorW.PrintWords Go.Proofs.YtddepomgaeadpaaGreatDoorW.PrintLast Go.Proofs.YtddepomgaeadpaaGreatDoorW.PrintMore
attribute [local go_sem] max2_int min2_int max_two min_two max_three min_three max_four min_four   -- for this text's walks alone
set_option linter.unusedVariables false
set_option linter.unusedSimpArgs false

/-! ### note_GetConfig: function 61 -/
def note_GetConfig.l0 : Nat → ByteArray → List ByteArray → Int → Int → Int → Int → Int → Int → List Int → Option (Int × Int × Int × Int × List Int × Int)
 | 0, _, _, _, _, _, _, _, _, _ => none
 | k + 1, x0, x35, x36, x37, x160000, x160001, x160002, x160003, x160004 => if x37 < x36 then (if 0 ≤ x37 then (if x37 < (x35.length : Int) then ((note_parse.f (rdOf ByteArray.empty x35 x37)).bind fun t166 => (if x160004.length < 17592186044416 then (note_GetConfig.l0 k x0 x35 x36 (wrap64 (x37 + 1)) x160000 x160001 x160002 x160003 (x160004 ++ [t166])) else (none))) else (none)) else (none)) else ((note_PutConfig.f k x160000 x160001 x160002 x160003 x160004).bind fun t170 => (if t170.toList = x0.toList then (some (x160000, x160001, x160002, x160003, x160004, 0)) else (some (0, 0, 0, 0, ([] : List Int), 1))))
def note_GetConfig.f (k : Nat) (a0 : ByteArray) : Option (Int × Int × Int × Int × List Int × Int) := (strings_Split.f a0 (⟨#[32]⟩ : ByteArray)).bind fun t148 => (if (t148.length : Int) < 8 then (some (0, 0, 0, 0, ([] : List Int), 1)) else (if 1 < (t148.length : Int) then ((note_parse.f (rdOf ByteArray.empty t148 1)).bind fun t152 => (if 3 < (t148.length : Int) then ((note_parse.f (rdOf ByteArray.empty t148 3)).bind fun t154 => (if 5 < (t148.length : Int) then ((note_parse.f (rdOf ByteArray.empty t148 5)).bind fun t156 => (if 7 < (t148.length : Int) then ((note_parse.f (rdOf ByteArray.empty t148 7)).bind fun t158 => (if 0 ≤ (mn 9 (t148.length : Int)) then (if (mn 9 (t148.length : Int)) ≤ (t148.length : Int) then ((some (t148.drop ((mn 9 (t148.length : Int)) : Int).toNat : List ByteArray)).bind fun y160 => (note_GetConfig.l0 k a0 y160 (y160.length : Int) 0 t152 t154 t156 t158 ([] : List Int))) else (none)) else (none))) else (none))) else (none))) else (none))) else (none)))
def note_GetConfig.T4 : Bool × List (List Nat × List Nat) := (true, [([], []), ([0], [0]), ([1], [1]), ([2], [2]), ([], []), ([4], [4]), ([5], [5]), ([6, 3], [6]), ([], []), ([8], [8]), ([9], [9]), ([10, 7], [10]), ([], []), ([12], [12]), ([13], [13]), ([14, 11], [14]), ([3, 7, 11, 15], [3, 7, 11, 15]), ([], []), ([17, 16, 15, 0, 1, 2, 3, 4, 5, 6, 7, 8, 9, 10, 11, 12, 13, 14, 15, 16, 17], [16, 17])])
def note_GetConfig.B4 : List Nat := [0, 1, 3, 7, 0, 16, 48, 127, 0, 256, 768, 2047, 0, 4096, 12288, 32767, 65535, 0, 262143]
theorem note_GetConfig.tab4 : rtab .any (opsOf Tryz.f61 4) = note_GetConfig.T4 := by kernel_rfl
theorem note_GetConfig.bits4 : waitsOk note_GetConfig.T4.2 note_GetConfig.B4 = true := by kernel_rfl
def note_GetConfig.T8 : Bool × List (List Nat × List Nat) := (true, [([], []), ([0], [0]), ([], []), ([2], [2]), ([3], [3]), ([1, 4, 3], [1, 4]), ([0, 1, 2, 3, 4, 5], []), ([6, 5, 5, 0, 1, 2, 3, 4, 5], [5, 6])])
def note_GetConfig.B8 : List Nat := [0, 1, 0, 4, 12, 31, 63, 127]
theorem note_GetConfig.tab8 : rtab .any (opsOf Tryz.f61 8) = note_GetConfig.T8 := by kernel_rfl
theorem note_GetConfig.bits8 : waitsOk note_GetConfig.T8.2 note_GetConfig.B8 = true := by kernel_rfl
set_option maxHeartbeats 8000000 in
set_option maxRecDepth 100000 in
theorem note_GetConfig.calls (k : Nat) (a0 : ByteArray) (r1 : Int) (r2 : Int) (r3 : Int) (r4 : Int) (r5 : List Int) (r6 : Int) (w : World) (h : note_GetConfig.f k a0 = some (r1, r2, r3, r4, r5, r6)) :
  Calls Tryz.prog 61 #[.string a0] w fun e w' => ∃ v4_ : Value, e = .returned (.tuple #[.agg #[.int .i64 r1, .int .i64 r2, .int .i64 r3, .int .i64 r4, v4_], .int .i64 r6]) ∧ Kd.R (Kd.int .i64) 3 w' w.heap.size (fun _ => True) v4_ r5 ∧ Below w.heap.size w w' := by
 have hu57 := Tryz.underlying57
 have HB := Aside0.mk (Below.refl w.heap.size w)
 have H : ((strings_Split.f a0 (⟨#[32]⟩ : ByteArray)).bind fun t148 => (if (t148.length : Int) < 8 then (some (0, 0, 0, 0, ([] : List Int), 1)) else (if 1 < (t148.length : Int) then ((note_parse.f (rdOf ByteArray.empty t148 1)).bind fun t152 => (if 3 < (t148.length : Int) then ((note_parse.f (rdOf ByteArray.empty t148 3)).bind fun t154 => (if 5 < (t148.length : Int) then ((note_parse.f (rdOf ByteArray.empty t148 5)).bind fun t156 => (if 7 < (t148.length : Int) then ((note_parse.f (rdOf ByteArray.empty t148 7)).bind fun t158 => (if 0 ≤ (mn 9 (t148.length : Int)) then (if (mn 9 (t148.length : Int)) ≤ (t148.length : Int) then ((some (t148.drop ((mn 9 (t148.length : Int)) : Int).toNat : List ByteArray)).bind fun y160 => (note_GetConfig.l0 k a0 y160 (y160.length : Int) 0 t152 t154 t156 t158 ([] : List Int))) else (none)) else (none))) else (none))) else (none))) else (none))) else (none)))) = some (r1, r2, r3, r4, r5, r6) := h
 clear h
 replace H := Option.bind_eq_some_iff.mp H
 obtain ⟨t148, A20, H⟩ := H
 have A2 := Aside0.mk A20
 clear A20
 by_cases c3 : (t148.length : Int) < 8
 ·rw [if_pos c3] at H
  have c3b0 : decide ((t148.length : Int) < 8) = true := decide_eq_true c3
  have c3b1 : decide (t148.length < 8) = true := decide_eq_true (by omega)
  clear c3
  simp only [Option.some.injEq, Prod.mk.injEq] at H
  obtain ⟨rfl, rfl, rfl, rfl, rfl, rfl⟩ := H
  go_enter Tryz.func61, Tryz.ntmps61
  go_wp2_with (first | ((with_reducible refine gate_dst (N := 2) rfl ?_); refine box_event ?hg (N := 2) ?hd (cs := #[.int .i64 0, .int .i64 0, .int .i64 0, .int .i64 0, .slice none 0 0]) (t := 57) ?hr ?_; (case hd => rfl); (case hg => rfl); (case hr => (go_simp; done)); intro gb147 hg w4 hbox hb; have BK147 := Aside0.mk (hbox); have GW147 := Aside0.mk ((by rw [hg]; exact below_size HB.out : w.heap.size ≤ gb147)); have GE147 := Aside0.mk ((by rw [hg]; exact below_size HB.out : w.heap.size ≤ gb147)); replace HB := Aside0.mk (below_step HB.out hb); clear hb hbox hg) | ((with_reducible refine gate_callee (f := 72) rfl ?_); refine goesL_ (some 9) rfl rfl Tryz.func72 (by kernel_rfl) rfl #[.string a0, .string (⟨#[32]⟩ : ByteArray)] rfl (by (try simp only [List.map_toArray, List.map_cons, List.map_nil]); (rfl)) ?_; (with_reducible refine (strings_Split.calls a0 (⟨#[32]⟩ : ByteArray) t148 _ A2.out).mono ?_); rintro e w5 ⟨v149, rfl, ho0, hb⟩; refine ⟨_, rfl, ?_⟩; have HO150 := Aside0.mk (Kd.R_lower ho0 (below_size HB.out)); replace BK147 := Aside0.mk (blk_below BK147.out hb); replace HB := Aside0.mk (below_step HB.out hb); (try clear hb); (try clear hb2); (try clear hk); (try clear hi); (try clear ho0); obtain ⟨Ao6, co6, eo6⟩ := Kd.R_slice HO150.out; subst eo6; have hcz7_0 : w5.cell? ⟨gb147, 0, none⟩ = some (.int .i64 0) := (blk_cell BK147.out 0).trans rfl; have hcz7_1 : w5.cell? ⟨gb147, 1, none⟩ = some (.int .i64 0) := (blk_cell BK147.out 1).trans rfl; have hcz7_2 : w5.cell? ⟨gb147, 2, none⟩ = some (.int .i64 0) := (blk_cell BK147.out 2).trans rfl; have hcz7_3 : w5.cell? ⟨gb147, 3, none⟩ = some (.int .i64 0) := (blk_cell BK147.out 3).trans rfl; have hcz7_4 : w5.cell? ⟨gb147, 4, none⟩ = some (.slice none 0 0) := (blk_cell BK147.out 4).trans rfl; have hfz7_0 := blk_frozen BK147.out 0; have hfz7_1 := blk_frozen BK147.out 1; have hfz7_2 := blk_frozen BK147.out 2; have hfz7_3 := blk_frozen BK147.out 3; have hfz7_4 := blk_frozen BK147.out 4))
  refine bodyPost_ret (results_ct rfl _ _ gb147 57 #[.int .i64 0, .int .i64 0, .int .i64 0, .int .i64 0, .slice none 0 0] (0, 0) _ rfl (by refine blk_put (cs := #[.int .i64 0, .int .i64 0, .int .i64 0, .int .i64 0, .slice none 0 0]) ?_ 4 _ rfl; refine blk_put (cs := #[.int .i64 0, .int .i64 0, .int .i64 0, .int .i64 0, .slice none 0 0]) ?_ 3 _ rfl; refine blk_put (cs := #[.int .i64 0, .int .i64 0, .int .i64 0, .int .i64 0, .slice none 0 0]) ?_ 2 _ rfl; refine blk_put (cs := #[.int .i64 0, .int .i64 0, .int .i64 0, .int .i64 0, .slice none 0 0]) ?_ 1 _ rfl; refine blk_put (cs := #[.int .i64 0, .int .i64 0, .int .i64 0, .int .i64 0, .slice none 0 0]) ?_ 0 _ rfl; exact BK147.out) Tryz.underlying57 rfl (by kernel_rfl)) rfl ?_
  exact ⟨_, by (rfl), by (exact Kd.R_nil _ _ _ _ _), by repeat ((with_reducible first | exact HB.out | refine below_set ?_ GE147.out))⟩
 ·rw [if_neg c3] at H
  have c3b0 : decide ((t148.length : Int) < 8) = false := decide_eq_false c3
  have c3b1 : decide (t148.length < 8) = false := decide_eq_false (by omega)
  clear c3
  by_cases c8 : 1 < (t148.length : Int)
  ·rw [if_pos c8] at H
   have c8b0 : decide (1 < (t148.length : Int)) = true := decide_eq_true c8
   have c8b1 : decide (1 < t148.length) = true := decide_eq_true (by omega)
   clear c8
   replace H := Option.bind_eq_some_iff.mp H
   obtain ⟨t152, A90, H⟩ := H
   have A9 := Aside0.mk A90
   clear A90
   by_cases c10 : 3 < (t148.length : Int)
   ·rw [if_pos c10] at H
    have c10b0 : decide (3 < (t148.length : Int)) = true := decide_eq_true c10
    have c10b1 : decide (3 < t148.length) = true := decide_eq_true (by omega)
    clear c10
    replace H := Option.bind_eq_some_iff.mp H
    obtain ⟨t154, A110, H⟩ := H
    have A11 := Aside0.mk A110
    clear A110
    by_cases c12 : 5 < (t148.length : Int)
    ·rw [if_pos c12] at H
     have c12b0 : decide (5 < (t148.length : Int)) = true := decide_eq_true c12
     have c12b1 : decide (5 < t148.length) = true := decide_eq_true (by omega)
     clear c12
     replace H := Option.bind_eq_some_iff.mp H
     obtain ⟨t156, A130, H⟩ := H
     have A13 := Aside0.mk A130
     clear A130
     by_cases c14 : 7 < (t148.length : Int)
     ·rw [if_pos c14] at H
      have c14b0 : decide (7 < (t148.length : Int)) = true := decide_eq_true c14
      have c14b1 : decide (7 < t148.length) = true := decide_eq_true (by omega)
      clear c14
      replace H := Option.bind_eq_some_iff.mp H
      obtain ⟨t158, A150, H⟩ := H
      have A15 := Aside0.mk A150
      clear A150
      obtain ⟨ji16, hji16⟩ : ∃ j_ : Int, (mn 9 (t148.length : Int)) = j_ := ⟨_, rfl⟩
      replace H : (if 0 ≤ (ji16) then (if (ji16) ≤ (t148.length : Int) then ((some (t148.drop ((ji16) : Int).toNat : List ByteArray)).bind fun y160 => (note_GetConfig.l0 k a0 y160 (y160.length : Int) 0 t152 t154 t156 t158 ([] : List Int))) else (none)) else (none)) = some (r1, r2, r3, r4, r5, r6) := by (rw [hji16] at H; exact H)
      (try rw [hji16] at A2)
      (try rw [hji16] at A9)
      (try rw [hji16] at A11)
      (try rw [hji16] at A13)
      (try rw [hji16] at A15)
      (try (have hji16h : ji16 ≤ 9 := by (rw [← hji16]; unfold mn; (repeat' split) <;> omega)))
      (try (have hji16g : ji16 ≤ 64 := by omega))
      (try (have hji16l : 0 ≤ ji16 := by (rw [← hji16]; unfold mn; (repeat' split) <;> omega)))
      (try (have hji16m : 0 ≤ ji16 := by omega))
      have hji16_ : (if (t148.length : Int) < 9 then (t148.length : Int) else 9) = ji16 := hji16
      by_cases c17 : 0 ≤ (ji16)
      ·rw [if_pos c17] at H
       have c17b0 := eq_true c17
       have c17b1 : decide (0 ≤ (ji16)) = true := decide_eq_true c17
       clear c17
       by_cases c18 : (ji16) ≤ (t148.length : Int)
       ·rw [if_pos c18] at H
        have c18b0 := eq_true c18
        have c18b1 : decide ((ji16) ≤ (t148.length : Int)) = true := decide_eq_true c18
        clear c18
        obtain ⟨y160, hy160⟩ : ∃ y_ : List ByteArray, y_ = (t148.drop ((ji16) : Int).toNat) := ⟨_, rfl⟩
        replace H : (note_GetConfig.l0 k a0 y160 (y160.length : Int) 0 t152 t154 t156 t158 ([] : List Int)) = some (r1, r2, r3, r4, r5, r6) := by (have H2_ := (Option.bind_some _ _).symm.trans H; rw [hy160]; with_reducible exact H2_)
        have Ny160 := Aside0.mk hy160
        clear hy160
        have H' := Aside0.mk H
        clear H
        go_enter Tryz.func61, Tryz.ntmps61
        try go_wp2_with (first | ((with_reducible refine gate_dst (N := 2) rfl ?_); refine box_event ?hg (N := 2) ?hd (cs := #[.int .i64 0, .int .i64 0, .int .i64 0, .int .i64 0, .slice none 0 0]) (t := 57) ?hr ?_; (case hd => rfl); (case hg => rfl); (case hr => (go_simp; done)); intro gb147 hg w19 hbox hb; have BK147 := Aside0.mk (hbox); have GW147 := Aside0.mk ((by rw [hg]; exact below_size HB.out : w.heap.size ≤ gb147)); have GE147 := Aside0.mk ((by rw [hg]; exact below_size HB.out : w.heap.size ≤ gb147)); replace HB := Aside0.mk (below_step HB.out hb); clear hb hbox hg) | ((with_reducible refine gate_callee (f := 72) rfl ?_); refine goesL_ (some 9) rfl rfl Tryz.func72 (by kernel_rfl) rfl #[.string a0, .string (⟨#[32]⟩ : ByteArray)] rfl (by (try simp only [List.map_toArray, List.map_cons, List.map_nil]); (rfl)) ?_; (with_reducible refine (strings_Split.calls a0 (⟨#[32]⟩ : ByteArray) t148 _ A2.out).mono ?_); rintro e w20 ⟨v149, rfl, ho0, hb⟩; refine ⟨_, rfl, ?_⟩; have HO150 := Aside0.mk (Kd.R_lower ho0 (below_size HB.out)); replace BK147 := Aside0.mk (blk_below BK147.out hb); replace HB := Aside0.mk (below_step HB.out hb); (try clear hb); (try clear hb2); (try clear hk); (try clear hi); (try clear ho0); obtain ⟨Ao21, co21, eo21⟩ := Kd.R_slice HO150.out; subst eo21))
        replace HO150 := Aside0.mk (Kd.R_drew HO150.out)
        replace BK147 := Aside0.mk (blk_drew BK147.out)
        replace HB := Aside0.mk (below_drew1 HB.out)
        have p151 : 0 ≤ (1 : Int) := (by omega)
        have q151 : 1 < (t148.length : Int) := of_decide_eq_true (by (with_reducible assumption))
        obtain ⟨ad151, e151, hx151_0⟩ := Kd.at_string (Kd.R_reads' HO150.out).2.2 1 p151 q151
        cases e151
        (try simp only [show (1 : Int).toNat = 1 from rfl, Nat.reduceMul, Nat.reduceEqDiff, Go.Addr.add, ↓reduceIte] at hx151_0)
        have qi151 : (1 < t148.length) = True := eq_true (by omega)
        (try rw [show ((1 : Int)).toNat = 1 from rfl] at hx151_0)
        replace p151 := eq_true p151
        replace q151 := eq_true q151
        have p153 : 0 ≤ (3 : Int) := (by omega)
        have q153 : 3 < (t148.length : Int) := of_decide_eq_true (by (with_reducible assumption))
        obtain ⟨ad153, e153, hx153_0⟩ := Kd.at_string (Kd.R_reads' HO150.out).2.2 3 p153 q153
        obtain rfl : ad151 = ad153 := (by injection e153)
        (try simp only [show (3 : Int).toNat = 3 from rfl, Nat.reduceMul, Nat.reduceEqDiff, Go.Addr.add, ↓reduceIte] at hx153_0)
        have qi153 : (3 < t148.length) = True := eq_true (by omega)
        (try rw [show ((3 : Int)).toNat = 3 from rfl] at hx153_0)
        replace p153 := eq_true p153
        replace q153 := eq_true q153
        have p155 : 0 ≤ (5 : Int) := (by omega)
        have q155 : 5 < (t148.length : Int) := of_decide_eq_true (by (with_reducible assumption))
        obtain ⟨ad155, e155, hx155_0⟩ := Kd.at_string (Kd.R_reads' HO150.out).2.2 5 p155 q155
        obtain rfl : ad151 = ad155 := (by injection e155)
        (try simp only [show (5 : Int).toNat = 5 from rfl, Nat.reduceMul, Nat.reduceEqDiff, Go.Addr.add, ↓reduceIte] at hx155_0)
        have qi155 : (5 < t148.length) = True := eq_true (by omega)
        (try rw [show ((5 : Int)).toNat = 5 from rfl] at hx155_0)
        replace p155 := eq_true p155
        replace q155 := eq_true q155
        have p157 : 0 ≤ (7 : Int) := (by omega)
        have q157 : 7 < (t148.length : Int) := of_decide_eq_true (by (with_reducible assumption))
        obtain ⟨ad157, e157, hx157_0⟩ := Kd.at_string (Kd.R_reads' HO150.out).2.2 7 p157 q157
        obtain rfl : ad151 = ad157 := (by injection e157)
        (try simp only [show (7 : Int).toNat = 7 from rfl, Nat.reduceMul, Nat.reduceEqDiff, Go.Addr.add, ↓reduceIte] at hx157_0)
        have qi157 : (7 < t148.length) = True := eq_true (by omega)
        (try rw [show ((7 : Int)).toNat = 7 from rfl] at hx157_0)
        replace p157 := eq_true p157
        replace q157 := eq_true q157
        refine start_ (n := 19) (S := fun w' => w'.cell? ⟨ad151.block, ad151.off + 1, none⟩ = some (.string (rdOf ByteArray.empty t148 1)) ∧ w'.cell? ⟨ad151.block, ad151.off + 3, none⟩ = some (.string (rdOf ByteArray.empty t148 3)) ∧ w'.cell? ⟨ad151.block, ad151.off + 5, none⟩ = some (.string (rdOf ByteArray.empty t148 5)) ∧ w'.cell? ⟨ad151.block, ad151.off + 7, none⟩ = some (.string (rdOf ByteArray.empty t148 7))) (ds := []) (bs 19 0) (by kernel_rfl) rfl rfl ⟨hx151_0, hx153_0, hx155_0, hx157_0⟩ (fun hHeld => ?_); refine with_tabW note_GetConfig.tab4 note_GetConfig.bits4 (fun HT_ HW_ => ?_)
        generalize w20.drew = w22 at HO150 BK147 HB hx151_0 hx153_0 hx155_0 hx157_0 hHeld ⊢
        refine pureA_ (i := 0) (N := some 14) (bs 19 1) HT_ ?_
        refine pureA_ (i := 1) (N := some 15) (bs 19 3) HT_ ?_
        refine pureA_ (i := 4) (N := some 18) (bs 19 19) HT_ ?_
        refine pureA_ (i := 5) (N := some 19) (bs 19 51) HT_ ?_
        refine pureA_ (i := 8) (N := some 22) (bs 19 307) HT_ ?_
        refine pureA_ (i := 9) (N := some 23) (bs 19 819) HT_ ?_
        refine pureA_ (i := 12) (N := some 26) (bs 19 4915) HT_ ?_
        refine pureA_ (i := 13) (N := some 27) (bs 19 13107) HT_ ?_
        refine takeA_ (i := 2) (N := some 16) (bs 19 13111) HT_ HW_ hHeld ?_
        refine takeA_ (i := 6) (N := some 20) (bs 19 13175) HT_ HW_ hHeld ?_
        refine takeA_ (i := 10) (N := some 24) (bs 19 14199) HT_ HW_ hHeld ?_
        refine takeA_ (i := 14) (N := some 28) (bs 19 30583) HT_ HW_ hHeld ?_
        refine join_ (σ := Nat) 1 (bs 19 262143) (fun s_ => [(17, .int .i64 t152), (21, .int .i64 t154), (25, .int .i64 t156), (29, .int .i64 t158), (5, .pointer (some ⟨s_, 0, none⟩)), (30, .agg #[.int .i64 t152, .int .i64 t154, .int .i64 t156, .int .i64 t158, .slice none 0 0])]) (fun s_ w' => (w'.cell? ⟨ad151.block, ad151.off + 1, none⟩ = some (.string (rdOf ByteArray.empty t148 1)) ∧ w'.cell? ⟨ad151.block, ad151.off + 3, none⟩ = some (.string (rdOf ByteArray.empty t148 3)) ∧ w'.cell? ⟨ad151.block, ad151.off + 5, none⟩ = some (.string (rdOf ByteArray.empty t148 5)) ∧ w'.cell? ⟨ad151.block, ad151.off + 7, none⟩ = some (.string (rdOf ByteArray.empty t148 7))) ∧ (Kd.R Kd.string 9 w' w.heap.size (fun _ => True) (.slice (some ad151) t148.length co21) t148) ∧ (w'.heap[gb147]? = some (.cells #[.int .i64 0, .int .i64 0, .int .i64 0, .int .i64 0, .slice none 0 0] 57 (0, 0))) ∧ (w'.heap[s_]? = some (.cells #[.int .i64 0, .int .i64 0, .int .i64 0, .int .i64 0, .slice none 0 0] 57 (0, 0))) ∧ (w.heap.size ≤ s_) ∧ (w.heap.size ≤ s_) ∧ (gb147 ≠ s_) ∧ (s_ ≠ gb147) ∧ (Below w.heap.size w w')) ?_ ?_
        rotate_left
        ·intro hJ3_7_11_15_17
         refine join_ (σ := Unit) 2 (bs 19 131071) (fun s_ => [(17, .int .i64 t152), (21, .int .i64 t154), (25, .int .i64 t156), (29, .int .i64 t158), (30, .agg #[.int .i64 t152, .int .i64 t154, .int .i64 t156, .int .i64 t158, .slice none 0 0])]) (fun s_ w' => (w'.cell? ⟨ad151.block, ad151.off + 1, none⟩ = some (.string (rdOf ByteArray.empty t148 1)) ∧ w'.cell? ⟨ad151.block, ad151.off + 3, none⟩ = some (.string (rdOf ByteArray.empty t148 3)) ∧ w'.cell? ⟨ad151.block, ad151.off + 5, none⟩ = some (.string (rdOf ByteArray.empty t148 5)) ∧ w'.cell? ⟨ad151.block, ad151.off + 7, none⟩ = some (.string (rdOf ByteArray.empty t148 7))) ∧ (Kd.R Kd.string 9 w' w.heap.size (fun _ => True) (.slice (some ad151) t148.length co21) t148) ∧ (w'.heap[gb147]? = some (.cells #[.int .i64 0, .int .i64 0, .int .i64 0, .int .i64 0, .slice none 0 0] 57 (0, 0))) ∧ (Below w.heap.size w w')) ?_ ?_
         rotate_left
         ·intro hJ3_7_11_15
          refine join_ (σ := Nat) 3 (bs 19 163839) (fun s_ => [(17, .int .i64 t152), (21, .int .i64 t154), (25, .int .i64 t156), (5, .pointer (some ⟨s_, 0, none⟩))]) (fun s_ w' => (w'.cell? ⟨ad151.block, ad151.off + 1, none⟩ = some (.string (rdOf ByteArray.empty t148 1)) ∧ w'.cell? ⟨ad151.block, ad151.off + 3, none⟩ = some (.string (rdOf ByteArray.empty t148 3)) ∧ w'.cell? ⟨ad151.block, ad151.off + 5, none⟩ = some (.string (rdOf ByteArray.empty t148 5)) ∧ w'.cell? ⟨ad151.block, ad151.off + 7, none⟩ = some (.string (rdOf ByteArray.empty t148 7))) ∧ (Kd.R Kd.string 9 w' w.heap.size (fun _ => True) (.slice (some ad151) t148.length co21) t148) ∧ (w'.heap[gb147]? = some (.cells #[.int .i64 0, .int .i64 0, .int .i64 0, .int .i64 0, .slice none 0 0] 57 (0, 0))) ∧ (w'.heap[s_]? = some (.cells #[.int .i64 0, .int .i64 0, .int .i64 0, .int .i64 0, .slice none 0 0] 57 (0, 0))) ∧ (w.heap.size ≤ s_) ∧ (w.heap.size ≤ s_) ∧ (gb147 ≠ s_) ∧ (s_ ≠ gb147) ∧ (Below w.heap.size w w')) ?_ ?_
          rotate_left
          ·intro hJ3_7_11_17
           refine join_ (σ := Unit) 4 (bs 19 32767) (fun s_ => [(17, .int .i64 t152), (21, .int .i64 t154), (25, .int .i64 t156)]) (fun s_ w' => (w'.cell? ⟨ad151.block, ad151.off + 1, none⟩ = some (.string (rdOf ByteArray.empty t148 1)) ∧ w'.cell? ⟨ad151.block, ad151.off + 3, none⟩ = some (.string (rdOf ByteArray.empty t148 3)) ∧ w'.cell? ⟨ad151.block, ad151.off + 5, none⟩ = some (.string (rdOf ByteArray.empty t148 5)) ∧ w'.cell? ⟨ad151.block, ad151.off + 7, none⟩ = some (.string (rdOf ByteArray.empty t148 7))) ∧ (Kd.R Kd.string 9 w' w.heap.size (fun _ => True) (.slice (some ad151) t148.length co21) t148) ∧ (w'.heap[gb147]? = some (.cells #[.int .i64 0, .int .i64 0, .int .i64 0, .int .i64 0, .slice none 0 0] 57 (0, 0))) ∧ (Below w.heap.size w w')) ?_ ?_
           rotate_left
           ·intro hJ3_7_11
            refine join_ (σ := Nat) 4 (bs 19 161791) (fun s_ => [(17, .int .i64 t152), (21, .int .i64 t154), (5, .pointer (some ⟨s_, 0, none⟩))]) (fun s_ w' => (w'.cell? ⟨ad151.block, ad151.off + 1, none⟩ = some (.string (rdOf ByteArray.empty t148 1)) ∧ w'.cell? ⟨ad151.block, ad151.off + 3, none⟩ = some (.string (rdOf ByteArray.empty t148 3)) ∧ w'.cell? ⟨ad151.block, ad151.off + 5, none⟩ = some (.string (rdOf ByteArray.empty t148 5)) ∧ w'.cell? ⟨ad151.block, ad151.off + 7, none⟩ = some (.string (rdOf ByteArray.empty t148 7))) ∧ (Kd.R Kd.string 9 w' w.heap.size (fun _ => True) (.slice (some ad151) t148.length co21) t148) ∧ (w'.heap[gb147]? = some (.cells #[.int .i64 0, .int .i64 0, .int .i64 0, .int .i64 0, .slice none 0 0] 57 (0, 0))) ∧ (w'.heap[s_]? = some (.cells #[.int .i64 0, .int .i64 0, .int .i64 0, .int .i64 0, .slice none 0 0] 57 (0, 0))) ∧ (w.heap.size ≤ s_) ∧ (w.heap.size ≤ s_) ∧ (gb147 ≠ s_) ∧ (s_ ≠ gb147) ∧ (Below w.heap.size w w')) ?_ ?_
            rotate_left
            ·intro hJ3_7_17
             refine join_ (σ := Unit) 5 (bs 19 30719) (fun s_ => [(17, .int .i64 t152), (21, .int .i64 t154)]) (fun s_ w' => (w'.cell? ⟨ad151.block, ad151.off + 1, none⟩ = some (.string (rdOf ByteArray.empty t148 1)) ∧ w'.cell? ⟨ad151.block, ad151.off + 3, none⟩ = some (.string (rdOf ByteArray.empty t148 3)) ∧ w'.cell? ⟨ad151.block, ad151.off + 5, none⟩ = some (.string (rdOf ByteArray.empty t148 5)) ∧ w'.cell? ⟨ad151.block, ad151.off + 7, none⟩ = some (.string (rdOf ByteArray.empty t148 7))) ∧ (Kd.R Kd.string 9 w' w.heap.size (fun _ => True) (.slice (some ad151) t148.length co21) t148) ∧ (w'.heap[gb147]? = some (.cells #[.int .i64 0, .int .i64 0, .int .i64 0, .int .i64 0, .slice none 0 0] 57 (0, 0))) ∧ (Below w.heap.size w w')) ?_ ?_
             rotate_left
             ·intro hJ3_7
              refine join_ (σ := Nat) 5 (bs 19 161663) (fun s_ => [(17, .int .i64 t152), (5, .pointer (some ⟨s_, 0, none⟩))]) (fun s_ w' => (w'.cell? ⟨ad151.block, ad151.off + 1, none⟩ = some (.string (rdOf ByteArray.empty t148 1)) ∧ w'.cell? ⟨ad151.block, ad151.off + 3, none⟩ = some (.string (rdOf ByteArray.empty t148 3)) ∧ w'.cell? ⟨ad151.block, ad151.off + 5, none⟩ = some (.string (rdOf ByteArray.empty t148 5)) ∧ w'.cell? ⟨ad151.block, ad151.off + 7, none⟩ = some (.string (rdOf ByteArray.empty t148 7))) ∧ (Kd.R Kd.string 9 w' w.heap.size (fun _ => True) (.slice (some ad151) t148.length co21) t148) ∧ (w'.heap[gb147]? = some (.cells #[.int .i64 0, .int .i64 0, .int .i64 0, .int .i64 0, .slice none 0 0] 57 (0, 0))) ∧ (w'.heap[s_]? = some (.cells #[.int .i64 0, .int .i64 0, .int .i64 0, .int .i64 0, .slice none 0 0] 57 (0, 0))) ∧ (w.heap.size ≤ s_) ∧ (w.heap.size ≤ s_) ∧ (gb147 ≠ s_) ∧ (s_ ≠ gb147) ∧ (Below w.heap.size w w')) ?_ ?_
              rotate_left
              ·intro hJ3_17
               refine join_ (σ := Unit) 6 (bs 19 30591) (fun s_ => [(17, .int .i64 t152)]) (fun s_ w' => (w'.cell? ⟨ad151.block, ad151.off + 1, none⟩ = some (.string (rdOf ByteArray.empty t148 1)) ∧ w'.cell? ⟨ad151.block, ad151.off + 3, none⟩ = some (.string (rdOf ByteArray.empty t148 3)) ∧ w'.cell? ⟨ad151.block, ad151.off + 5, none⟩ = some (.string (rdOf ByteArray.empty t148 5)) ∧ w'.cell? ⟨ad151.block, ad151.off + 7, none⟩ = some (.string (rdOf ByteArray.empty t148 7))) ∧ (Kd.R Kd.string 9 w' w.heap.size (fun _ => True) (.slice (some ad151) t148.length co21) t148) ∧ (w'.heap[gb147]? = some (.cells #[.int .i64 0, .int .i64 0, .int .i64 0, .int .i64 0, .slice none 0 0] 57 (0, 0))) ∧ (Below w.heap.size w w')) ?_ ?_
               rotate_left
               ·intro hJ3
                refine join_ (σ := Nat) 6 (bs 19 161655) (fun s_ => [(5, .pointer (some ⟨s_, 0, none⟩))]) (fun s_ w' => (w'.cell? ⟨ad151.block, ad151.off + 1, none⟩ = some (.string (rdOf ByteArray.empty t148 1)) ∧ w'.cell? ⟨ad151.block, ad151.off + 3, none⟩ = some (.string (rdOf ByteArray.empty t148 3)) ∧ w'.cell? ⟨ad151.block, ad151.off + 5, none⟩ = some (.string (rdOf ByteArray.empty t148 5)) ∧ w'.cell? ⟨ad151.block, ad151.off + 7, none⟩ = some (.string (rdOf ByteArray.empty t148 7))) ∧ (Kd.R Kd.string 9 w' w.heap.size (fun _ => True) (.slice (some ad151) t148.length co21) t148) ∧ (w'.heap[gb147]? = some (.cells #[.int .i64 0, .int .i64 0, .int .i64 0, .int .i64 0, .slice none 0 0] 57 (0, 0))) ∧ (w'.heap[s_]? = some (.cells #[.int .i64 0, .int .i64 0, .int .i64 0, .int .i64 0, .slice none 0 0] 57 (0, 0))) ∧ (w.heap.size ≤ s_) ∧ (w.heap.size ≤ s_) ∧ (gb147 ≠ s_) ∧ (s_ ≠ gb147) ∧ (Below w.heap.size w w')) ?_ ?_
                rotate_left
                ·intro hJ17
                 refine two_ (i := 3) (j := 17) (Ni := some 17) (Nj := some 5) (bs 19 30591) (bs 19 161655) rfl rfl rfl rfl (two_of HT_.out (by kernel_rfl)) (by decide) (by decide) (fun K hK => ?_) (fun K hK => ?_)
                 ·skip
                  refine goes_ Tryz.func73 (by kernel_rfl) rfl #[.string (rdOf ByteArray.empty t148 1)] (by rfl) rfl rfl (by (try simp only [List.map_toArray, List.map_cons, List.map_nil]); (rfl)) ?_
                  with_reducible refine (note_parse.calls (rdOf ByteArray.empty t148 1) t152 _ A9.out).mono ?_
                  rintro e w23 ⟨rfl, hb⟩
                  have HS0_ := (hb.cell (World.block_lt_of_cell? _ _ (hHeld.1))).trans (hHeld.1)
                  have HS1_ := (hb.cell (World.block_lt_of_cell? _ _ (hHeld.2.1))).trans (hHeld.2.1)
                  have HS2_ := (hb.cell (World.block_lt_of_cell? _ _ (hHeld.2.2.1))).trans (hHeld.2.2.1)
                  have HS3_ := (hb.cell (World.block_lt_of_cell? _ _ (hHeld.2.2.2))).trans (hHeld.2.2.2)
                  refine ⟨_, rfl, ?_⟩
                  replace HO150 := Aside0.mk (Kd.R_below HO150.out hb)
                  replace BK147 := Aside0.mk (blk_below BK147.out hb)
                  replace HB := Aside0.mk (below_step HB.out hb)
                  (try clear hb)
                  (try clear hb2)
                  (try clear hk)
                  (try clear hi)
                  refine hK.out _ _ ⟨HS0_, HS1_, HS2_, HS3_⟩ (fun hHeld => ?_)
                  clear hK K
                  refine norm_ (a' := ?_) ?_ ?_
                  rotate_left
                  ·show Act.put _ (some 17) _ = _
                   simp only [Act.put, List.setIfInBounds_toArray, List.set_cons_zero, List.set_cons_succ, i64_w, i32_w]
                   rfl
                  exact norm_ (by (simp only [putAll, Act.put, List.setIfInBounds_toArray, List.set_cons_zero, List.set_cons_succ]; done)) (hJ3 () _ ⟨hHeld, HO150.out, BK147.out, HB.out⟩)
                 ·skip
                  refine box_step ?hg (N := 5) ?hd (cs := #[.int .i64 0, .int .i64 0, .int .i64 0, .int .i64 0, .slice none 0 0]) (t := 57) ?hr ?_; (case hd => rfl); (case hg => rfl); (case hr => (go_simp; done))
                  intro gb159 hg w23 hbox hb
                  have HS0_ := (hb.cell (World.block_lt_of_cell? _ _ (hHeld.1))).trans (hHeld.1)
                  have HS1_ := (hb.cell (World.block_lt_of_cell? _ _ (hHeld.2.1))).trans (hHeld.2.1)
                  have HS2_ := (hb.cell (World.block_lt_of_cell? _ _ (hHeld.2.2.1))).trans (hHeld.2.2.1)
                  have HS3_ := (hb.cell (World.block_lt_of_cell? _ _ (hHeld.2.2.2))).trans (hHeld.2.2.2)
                  have BK159 := Aside0.mk (hbox)
                  have GW159 := Aside0.mk ((by rw [hg]; exact below_size HB.out : w.heap.size ≤ gb159))
                  have GE159 := Aside0.mk ((by rw [hg]; exact below_size HB.out : w.heap.size ≤ gb159))
                  have NB147_159 := Aside0.mk ((by rw [hg]; exact Nat.ne_of_lt (blk_lt BK147.out) : gb147 ≠ gb159))
                  have NB159_147 := Aside0.mk ((by rw [hg]; exact Nat.ne_of_gt (blk_lt BK147.out) : gb159 ≠ gb147))
                  replace HO150 := Aside0.mk (Kd.R_below HO150.out hb)
                  replace BK147 := Aside0.mk (blk_below BK147.out hb)
                  replace HB := Aside0.mk (below_step HB.out hb)
                  clear hb hbox hg
                  refine hK.out _ _ ⟨HS0_, HS1_, HS2_, HS3_⟩ (fun hHeld => ?_)
                  clear hK K
                  refine norm_ (a' := ?_) ?_ ?_
                  rotate_left
                  ·show Act.put _ (some 5) _ = _
                   simp only [Act.put, List.setIfInBounds_toArray, List.set_cons_zero, List.set_cons_succ, i64_w, i32_w]
                   rfl
                  exact norm_ (by (simp only [putAll, Act.put, List.setIfInBounds_toArray, List.set_cons_zero, List.set_cons_succ]; done)) (hJ17 (gb159) _ ⟨hHeld, HO150.out, BK147.out, BK159.out, GW159.out, GE159.out, NB147_159.out, NB159_147.out, HB.out⟩)
                ·skip
                 rintro gb159 w24 ⟨hS_, h0_, h1_, h2_, h3_, h4_, h5_, h6_, h7_⟩
                 have BK159 : Aside0 (w24.heap[gb159]? = some (.cells #[.int .i64 0, .int .i64 0, .int .i64 0, .int .i64 0, .slice none 0 0] 57 (0, 0))) := ⟨h2_⟩
                 have GW159 : Aside0 (w.heap.size ≤ gb159) := ⟨h3_⟩
                 have GE159 : Aside0 (w.heap.size ≤ gb159) := ⟨h4_⟩
                 have NB147_159 : Aside0 (gb147 ≠ gb159) := ⟨h5_⟩
                 have NB159_147 : Aside0 (gb159 ≠ gb147) := ⟨h6_⟩
                 replace HO150 : Aside0 (Kd.R Kd.string 9 w24 w.heap.size (fun _ => True) (.slice (some ad151) t148.length co21) t148) := ⟨h0_⟩
                 replace BK147 : Aside0 (w24.heap[gb147]? = some (.cells #[.int .i64 0, .int .i64 0, .int .i64 0, .int .i64 0, .slice none 0 0] 57 (0, 0))) := ⟨h1_⟩
                 replace HB : Aside0 (Below w.heap.size w w24) := ⟨h7_⟩
                 clear h0_ h1_ h2_ h3_ h4_ h5_ h6_ h7_
                 have hHeld : w24.cell? ⟨ad151.block, ad151.off + 1, none⟩ = some (.string (rdOf ByteArray.empty t148 1)) ∧ w24.cell? ⟨ad151.block, ad151.off + 3, none⟩ = some (.string (rdOf ByteArray.empty t148 3)) ∧ w24.cell? ⟨ad151.block, ad151.off + 5, none⟩ = some (.string (rdOf ByteArray.empty t148 5)) ∧ w24.cell? ⟨ad151.block, ad151.off + 7, none⟩ = some (.string (rdOf ByteArray.empty t148 7)) := hS_
                 refine norm_ (a' := ?_) ?_ ?_
                 rotate_left
                 ·simp only [putAll, Act.put, List.setIfInBounds_toArray, List.set_cons_zero, List.set_cons_succ]
                  rfl
                 refine one_ (i := 3) (N := some 17) (bs 19 161663) rfl rfl (one_of HT_.out (by kernel_rfl)) (by decide) (fun K hK => ?_)
                 refine goes_ Tryz.func73 (by kernel_rfl) rfl #[.string (rdOf ByteArray.empty t148 1)] (by rfl) rfl rfl (by (try simp only [List.map_toArray, List.map_cons, List.map_nil]); (rfl)) ?_
                 with_reducible refine (note_parse.calls (rdOf ByteArray.empty t148 1) t152 _ A9.out).mono ?_
                 rintro e w25 ⟨rfl, hb⟩
                 have HS0_ := (hb.cell (World.block_lt_of_cell? _ _ (hHeld.1))).trans (hHeld.1)
                 have HS1_ := (hb.cell (World.block_lt_of_cell? _ _ (hHeld.2.1))).trans (hHeld.2.1)
                 have HS2_ := (hb.cell (World.block_lt_of_cell? _ _ (hHeld.2.2.1))).trans (hHeld.2.2.1)
                 have HS3_ := (hb.cell (World.block_lt_of_cell? _ _ (hHeld.2.2.2))).trans (hHeld.2.2.2)
                 refine ⟨_, rfl, ?_⟩
                 replace HO150 := Aside0.mk (Kd.R_below HO150.out hb)
                 replace BK147 := Aside0.mk (blk_below BK147.out hb)
                 replace BK159 := Aside0.mk (blk_below BK159.out hb)
                 replace HB := Aside0.mk (below_step HB.out hb)
                 (try clear hb)
                 (try clear hb2)
                 (try clear hk)
                 (try clear hi)
                 refine hK.out _ _ ⟨HS0_, HS1_, HS2_, HS3_⟩ (fun hHeld => ?_)
                 clear hK K
                 refine norm_ (a' := ?_) ?_ ?_
                 rotate_left
                 ·show Act.put _ (some 17) _ = _
                  simp only [Act.put, List.setIfInBounds_toArray, List.set_cons_zero, List.set_cons_succ, i64_w, i32_w]
                  rfl
                 exact norm_ (by (simp only [putAll, Act.put, List.setIfInBounds_toArray, List.set_cons_zero, List.set_cons_succ]; done)) (hJ3_17 (gb159) _ ⟨hHeld, HO150.out, BK147.out, BK159.out, GW159.out, GE159.out, NB147_159.out, NB159_147.out, HB.out⟩)
               ·skip
                rintro _ w24 ⟨hS_, h0_, h1_, h2_⟩
                replace HO150 : Aside0 (Kd.R Kd.string 9 w24 w.heap.size (fun _ => True) (.slice (some ad151) t148.length co21) t148) := ⟨h0_⟩
                replace BK147 : Aside0 (w24.heap[gb147]? = some (.cells #[.int .i64 0, .int .i64 0, .int .i64 0, .int .i64 0, .slice none 0 0] 57 (0, 0))) := ⟨h1_⟩
                replace HB : Aside0 (Below w.heap.size w w24) := ⟨h2_⟩
                clear h0_ h1_ h2_
                have hHeld : w24.cell? ⟨ad151.block, ad151.off + 1, none⟩ = some (.string (rdOf ByteArray.empty t148 1)) ∧ w24.cell? ⟨ad151.block, ad151.off + 3, none⟩ = some (.string (rdOf ByteArray.empty t148 3)) ∧ w24.cell? ⟨ad151.block, ad151.off + 5, none⟩ = some (.string (rdOf ByteArray.empty t148 5)) ∧ w24.cell? ⟨ad151.block, ad151.off + 7, none⟩ = some (.string (rdOf ByteArray.empty t148 7)) := hS_
                refine norm_ (a' := ?_) ?_ ?_
                rotate_left
                ·simp only [putAll, Act.put, List.setIfInBounds_toArray, List.set_cons_zero, List.set_cons_succ]
                 rfl
                refine two_ (i := 7) (j := 17) (Ni := some 21) (Nj := some 5) (bs 19 30719) (bs 19 161663) rfl rfl rfl rfl (two_of HT_.out (by kernel_rfl)) (by decide) (by decide) (fun K hK => ?_) (fun K hK => ?_)
                ·skip
                 refine goes_ Tryz.func73 (by kernel_rfl) rfl #[.string (rdOf ByteArray.empty t148 3)] (by rfl) rfl rfl (by (try simp only [List.map_toArray, List.map_cons, List.map_nil]); (rfl)) ?_
                 with_reducible refine (note_parse.calls (rdOf ByteArray.empty t148 3) t154 _ A11.out).mono ?_
                 rintro e w25 ⟨rfl, hb⟩
                 have HS0_ := (hb.cell (World.block_lt_of_cell? _ _ (hHeld.1))).trans (hHeld.1)
                 have HS1_ := (hb.cell (World.block_lt_of_cell? _ _ (hHeld.2.1))).trans (hHeld.2.1)
                 have HS2_ := (hb.cell (World.block_lt_of_cell? _ _ (hHeld.2.2.1))).trans (hHeld.2.2.1)
                 have HS3_ := (hb.cell (World.block_lt_of_cell? _ _ (hHeld.2.2.2))).trans (hHeld.2.2.2)
                 refine ⟨_, rfl, ?_⟩
                 replace HO150 := Aside0.mk (Kd.R_below HO150.out hb)
                 replace BK147 := Aside0.mk (blk_below BK147.out hb)
                 replace HB := Aside0.mk (below_step HB.out hb)
                 (try clear hb)
                 (try clear hb2)
                 (try clear hk)
                 (try clear hi)
                 refine hK.out _ _ ⟨HS0_, HS1_, HS2_, HS3_⟩ (fun hHeld => ?_)
                 clear hK K
                 refine norm_ (a' := ?_) ?_ ?_
                 rotate_left
                 ·show Act.put _ (some 21) _ = _
                  simp only [Act.put, List.setIfInBounds_toArray, List.set_cons_zero, List.set_cons_succ, i64_w, i32_w]
                  rfl
                 exact norm_ (by (simp only [putAll, Act.put, List.setIfInBounds_toArray, List.set_cons_zero, List.set_cons_succ]; done)) (hJ3_7 () _ ⟨hHeld, HO150.out, BK147.out, HB.out⟩)
                ·skip
                 refine box_step ?hg (N := 5) ?hd (cs := #[.int .i64 0, .int .i64 0, .int .i64 0, .int .i64 0, .slice none 0 0]) (t := 57) ?hr ?_; (case hd => rfl); (case hg => rfl); (case hr => (go_simp; done))
                 intro gb159 hg w25 hbox hb
                 have HS0_ := (hb.cell (World.block_lt_of_cell? _ _ (hHeld.1))).trans (hHeld.1)
                 have HS1_ := (hb.cell (World.block_lt_of_cell? _ _ (hHeld.2.1))).trans (hHeld.2.1)
                 have HS2_ := (hb.cell (World.block_lt_of_cell? _ _ (hHeld.2.2.1))).trans (hHeld.2.2.1)
                 have HS3_ := (hb.cell (World.block_lt_of_cell? _ _ (hHeld.2.2.2))).trans (hHeld.2.2.2)
                 have BK159 := Aside0.mk (hbox)
                 have GW159 := Aside0.mk ((by rw [hg]; exact below_size HB.out : w.heap.size ≤ gb159))
                 have GE159 := Aside0.mk ((by rw [hg]; exact below_size HB.out : w.heap.size ≤ gb159))
                 have NB147_159 := Aside0.mk ((by rw [hg]; exact Nat.ne_of_lt (blk_lt BK147.out) : gb147 ≠ gb159))
                 have NB159_147 := Aside0.mk ((by rw [hg]; exact Nat.ne_of_gt (blk_lt BK147.out) : gb159 ≠ gb147))
                 replace HO150 := Aside0.mk (Kd.R_below HO150.out hb)
                 replace BK147 := Aside0.mk (blk_below BK147.out hb)
                 replace HB := Aside0.mk (below_step HB.out hb)
                 clear hb hbox hg
                 refine hK.out _ _ ⟨HS0_, HS1_, HS2_, HS3_⟩ (fun hHeld => ?_)
                 clear hK K
                 refine norm_ (a' := ?_) ?_ ?_
                 rotate_left
                 ·show Act.put _ (some 5) _ = _
                  simp only [Act.put, List.setIfInBounds_toArray, List.set_cons_zero, List.set_cons_succ, i64_w, i32_w]
                  rfl
                 exact norm_ (by (simp only [putAll, Act.put, List.setIfInBounds_toArray, List.set_cons_zero, List.set_cons_succ]; done)) (hJ3_17 (gb159) _ ⟨hHeld, HO150.out, BK147.out, BK159.out, GW159.out, GE159.out, NB147_159.out, NB159_147.out, HB.out⟩)
              ·skip
               rintro gb159 w25 ⟨hS_, h0_, h1_, h2_, h3_, h4_, h5_, h6_, h7_⟩
               have BK159 : Aside0 (w25.heap[gb159]? = some (.cells #[.int .i64 0, .int .i64 0, .int .i64 0, .int .i64 0, .slice none 0 0] 57 (0, 0))) := ⟨h2_⟩
               have GW159 : Aside0 (w.heap.size ≤ gb159) := ⟨h3_⟩
               have GE159 : Aside0 (w.heap.size ≤ gb159) := ⟨h4_⟩
               have NB147_159 : Aside0 (gb147 ≠ gb159) := ⟨h5_⟩
               have NB159_147 : Aside0 (gb159 ≠ gb147) := ⟨h6_⟩
               replace HO150 : Aside0 (Kd.R Kd.string 9 w25 w.heap.size (fun _ => True) (.slice (some ad151) t148.length co21) t148) := ⟨h0_⟩
               replace BK147 : Aside0 (w25.heap[gb147]? = some (.cells #[.int .i64 0, .int .i64 0, .int .i64 0, .int .i64 0, .slice none 0 0] 57 (0, 0))) := ⟨h1_⟩
               replace HB : Aside0 (Below w.heap.size w w25) := ⟨h7_⟩
               clear h0_ h1_ h2_ h3_ h4_ h5_ h6_ h7_
               have hHeld : w25.cell? ⟨ad151.block, ad151.off + 1, none⟩ = some (.string (rdOf ByteArray.empty t148 1)) ∧ w25.cell? ⟨ad151.block, ad151.off + 3, none⟩ = some (.string (rdOf ByteArray.empty t148 3)) ∧ w25.cell? ⟨ad151.block, ad151.off + 5, none⟩ = some (.string (rdOf ByteArray.empty t148 5)) ∧ w25.cell? ⟨ad151.block, ad151.off + 7, none⟩ = some (.string (rdOf ByteArray.empty t148 7)) := hS_
               refine norm_ (a' := ?_) ?_ ?_
               rotate_left
               ·simp only [putAll, Act.put, List.setIfInBounds_toArray, List.set_cons_zero, List.set_cons_succ]
                rfl
               refine one_ (i := 7) (N := some 21) (bs 19 161791) rfl rfl (one_of HT_.out (by kernel_rfl)) (by decide) (fun K hK => ?_)
               refine goes_ Tryz.func73 (by kernel_rfl) rfl #[.string (rdOf ByteArray.empty t148 3)] (by rfl) rfl rfl (by (try simp only [List.map_toArray, List.map_cons, List.map_nil]); (rfl)) ?_
               with_reducible refine (note_parse.calls (rdOf ByteArray.empty t148 3) t154 _ A11.out).mono ?_
               rintro e w26 ⟨rfl, hb⟩
               have HS0_ := (hb.cell (World.block_lt_of_cell? _ _ (hHeld.1))).trans (hHeld.1)
               have HS1_ := (hb.cell (World.block_lt_of_cell? _ _ (hHeld.2.1))).trans (hHeld.2.1)
               have HS2_ := (hb.cell (World.block_lt_of_cell? _ _ (hHeld.2.2.1))).trans (hHeld.2.2.1)
               have HS3_ := (hb.cell (World.block_lt_of_cell? _ _ (hHeld.2.2.2))).trans (hHeld.2.2.2)
               refine ⟨_, rfl, ?_⟩
               replace HO150 := Aside0.mk (Kd.R_below HO150.out hb)
               replace BK147 := Aside0.mk (blk_below BK147.out hb)
               replace BK159 := Aside0.mk (blk_below BK159.out hb)
               replace HB := Aside0.mk (below_step HB.out hb)
               (try clear hb)
               (try clear hb2)
               (try clear hk)
               (try clear hi)
               refine hK.out _ _ ⟨HS0_, HS1_, HS2_, HS3_⟩ (fun hHeld => ?_)
               clear hK K
               refine norm_ (a' := ?_) ?_ ?_
               rotate_left
               ·show Act.put _ (some 21) _ = _
                simp only [Act.put, List.setIfInBounds_toArray, List.set_cons_zero, List.set_cons_succ, i64_w, i32_w]
                rfl
               exact norm_ (by (simp only [putAll, Act.put, List.setIfInBounds_toArray, List.set_cons_zero, List.set_cons_succ]; done)) (hJ3_7_17 (gb159) _ ⟨hHeld, HO150.out, BK147.out, BK159.out, GW159.out, GE159.out, NB147_159.out, NB159_147.out, HB.out⟩)
             ·skip
              rintro _ w25 ⟨hS_, h0_, h1_, h2_⟩
              replace HO150 : Aside0 (Kd.R Kd.string 9 w25 w.heap.size (fun _ => True) (.slice (some ad151) t148.length co21) t148) := ⟨h0_⟩
              replace BK147 : Aside0 (w25.heap[gb147]? = some (.cells #[.int .i64 0, .int .i64 0, .int .i64 0, .int .i64 0, .slice none 0 0] 57 (0, 0))) := ⟨h1_⟩
              replace HB : Aside0 (Below w.heap.size w w25) := ⟨h2_⟩
              clear h0_ h1_ h2_
              have hHeld : w25.cell? ⟨ad151.block, ad151.off + 1, none⟩ = some (.string (rdOf ByteArray.empty t148 1)) ∧ w25.cell? ⟨ad151.block, ad151.off + 3, none⟩ = some (.string (rdOf ByteArray.empty t148 3)) ∧ w25.cell? ⟨ad151.block, ad151.off + 5, none⟩ = some (.string (rdOf ByteArray.empty t148 5)) ∧ w25.cell? ⟨ad151.block, ad151.off + 7, none⟩ = some (.string (rdOf ByteArray.empty t148 7)) := hS_
              refine norm_ (a' := ?_) ?_ ?_
              rotate_left
              ·simp only [putAll, Act.put, List.setIfInBounds_toArray, List.set_cons_zero, List.set_cons_succ]
               rfl
              refine two_ (i := 11) (j := 17) (Ni := some 25) (Nj := some 5) (bs 19 32767) (bs 19 161791) rfl rfl rfl rfl (two_of HT_.out (by kernel_rfl)) (by decide) (by decide) (fun K hK => ?_) (fun K hK => ?_)
              ·skip
               refine goes_ Tryz.func73 (by kernel_rfl) rfl #[.string (rdOf ByteArray.empty t148 5)] (by rfl) rfl rfl (by (try simp only [List.map_toArray, List.map_cons, List.map_nil]); (rfl)) ?_
               with_reducible refine (note_parse.calls (rdOf ByteArray.empty t148 5) t156 _ A13.out).mono ?_
               rintro e w26 ⟨rfl, hb⟩
               have HS0_ := (hb.cell (World.block_lt_of_cell? _ _ (hHeld.1))).trans (hHeld.1)
               have HS1_ := (hb.cell (World.block_lt_of_cell? _ _ (hHeld.2.1))).trans (hHeld.2.1)
               have HS2_ := (hb.cell (World.block_lt_of_cell? _ _ (hHeld.2.2.1))).trans (hHeld.2.2.1)
               have HS3_ := (hb.cell (World.block_lt_of_cell? _ _ (hHeld.2.2.2))).trans (hHeld.2.2.2)
               refine ⟨_, rfl, ?_⟩
               replace HO150 := Aside0.mk (Kd.R_below HO150.out hb)
               replace BK147 := Aside0.mk (blk_below BK147.out hb)
               replace HB := Aside0.mk (below_step HB.out hb)
               (try clear hb)
               (try clear hb2)
               (try clear hk)
               (try clear hi)
               refine hK.out _ _ ⟨HS0_, HS1_, HS2_, HS3_⟩ (fun hHeld => ?_)
               clear hK K
               refine norm_ (a' := ?_) ?_ ?_
               rotate_left
               ·show Act.put _ (some 25) _ = _
                simp only [Act.put, List.setIfInBounds_toArray, List.set_cons_zero, List.set_cons_succ, i64_w, i32_w]
                rfl
               exact norm_ (by (simp only [putAll, Act.put, List.setIfInBounds_toArray, List.set_cons_zero, List.set_cons_succ]; done)) (hJ3_7_11 () _ ⟨hHeld, HO150.out, BK147.out, HB.out⟩)
              ·skip
               refine box_step ?hg (N := 5) ?hd (cs := #[.int .i64 0, .int .i64 0, .int .i64 0, .int .i64 0, .slice none 0 0]) (t := 57) ?hr ?_; (case hd => rfl); (case hg => rfl); (case hr => (go_simp; done))
               intro gb159 hg w26 hbox hb
               have HS0_ := (hb.cell (World.block_lt_of_cell? _ _ (hHeld.1))).trans (hHeld.1)
               have HS1_ := (hb.cell (World.block_lt_of_cell? _ _ (hHeld.2.1))).trans (hHeld.2.1)
               have HS2_ := (hb.cell (World.block_lt_of_cell? _ _ (hHeld.2.2.1))).trans (hHeld.2.2.1)
               have HS3_ := (hb.cell (World.block_lt_of_cell? _ _ (hHeld.2.2.2))).trans (hHeld.2.2.2)
               have BK159 := Aside0.mk (hbox)
               have GW159 := Aside0.mk ((by rw [hg]; exact below_size HB.out : w.heap.size ≤ gb159))
               have GE159 := Aside0.mk ((by rw [hg]; exact below_size HB.out : w.heap.size ≤ gb159))
               have NB147_159 := Aside0.mk ((by rw [hg]; exact Nat.ne_of_lt (blk_lt BK147.out) : gb147 ≠ gb159))
               have NB159_147 := Aside0.mk ((by rw [hg]; exact Nat.ne_of_gt (blk_lt BK147.out) : gb159 ≠ gb147))
               replace HO150 := Aside0.mk (Kd.R_below HO150.out hb)
               replace BK147 := Aside0.mk (blk_below BK147.out hb)
               replace HB := Aside0.mk (below_step HB.out hb)
               clear hb hbox hg
               refine hK.out _ _ ⟨HS0_, HS1_, HS2_, HS3_⟩ (fun hHeld => ?_)
               clear hK K
               refine norm_ (a' := ?_) ?_ ?_
               rotate_left
               ·show Act.put _ (some 5) _ = _
                simp only [Act.put, List.setIfInBounds_toArray, List.set_cons_zero, List.set_cons_succ, i64_w, i32_w]
                rfl
               exact norm_ (by (simp only [putAll, Act.put, List.setIfInBounds_toArray, List.set_cons_zero, List.set_cons_succ]; done)) (hJ3_7_17 (gb159) _ ⟨hHeld, HO150.out, BK147.out, BK159.out, GW159.out, GE159.out, NB147_159.out, NB159_147.out, HB.out⟩)
            ·skip
             rintro gb159 w26 ⟨hS_, h0_, h1_, h2_, h3_, h4_, h5_, h6_, h7_⟩
             have BK159 : Aside0 (w26.heap[gb159]? = some (.cells #[.int .i64 0, .int .i64 0, .int .i64 0, .int .i64 0, .slice none 0 0] 57 (0, 0))) := ⟨h2_⟩
             have GW159 : Aside0 (w.heap.size ≤ gb159) := ⟨h3_⟩
             have GE159 : Aside0 (w.heap.size ≤ gb159) := ⟨h4_⟩
             have NB147_159 : Aside0 (gb147 ≠ gb159) := ⟨h5_⟩
             have NB159_147 : Aside0 (gb159 ≠ gb147) := ⟨h6_⟩
             replace HO150 : Aside0 (Kd.R Kd.string 9 w26 w.heap.size (fun _ => True) (.slice (some ad151) t148.length co21) t148) := ⟨h0_⟩
             replace BK147 : Aside0 (w26.heap[gb147]? = some (.cells #[.int .i64 0, .int .i64 0, .int .i64 0, .int .i64 0, .slice none 0 0] 57 (0, 0))) := ⟨h1_⟩
             replace HB : Aside0 (Below w.heap.size w w26) := ⟨h7_⟩
             clear h0_ h1_ h2_ h3_ h4_ h5_ h6_ h7_
             have hHeld : w26.cell? ⟨ad151.block, ad151.off + 1, none⟩ = some (.string (rdOf ByteArray.empty t148 1)) ∧ w26.cell? ⟨ad151.block, ad151.off + 3, none⟩ = some (.string (rdOf ByteArray.empty t148 3)) ∧ w26.cell? ⟨ad151.block, ad151.off + 5, none⟩ = some (.string (rdOf ByteArray.empty t148 5)) ∧ w26.cell? ⟨ad151.block, ad151.off + 7, none⟩ = some (.string (rdOf ByteArray.empty t148 7)) := hS_
             refine norm_ (a' := ?_) ?_ ?_
             rotate_left
             ·simp only [putAll, Act.put, List.setIfInBounds_toArray, List.set_cons_zero, List.set_cons_succ]
              rfl
             refine one_ (i := 11) (N := some 25) (bs 19 163839) rfl rfl (one_of HT_.out (by kernel_rfl)) (by decide) (fun K hK => ?_)
             refine goes_ Tryz.func73 (by kernel_rfl) rfl #[.string (rdOf ByteArray.empty t148 5)] (by rfl) rfl rfl (by (try simp only [List.map_toArray, List.map_cons, List.map_nil]); (rfl)) ?_
             with_reducible refine (note_parse.calls (rdOf ByteArray.empty t148 5) t156 _ A13.out).mono ?_
             rintro e w27 ⟨rfl, hb⟩
             have HS0_ := (hb.cell (World.block_lt_of_cell? _ _ (hHeld.1))).trans (hHeld.1)
             have HS1_ := (hb.cell (World.block_lt_of_cell? _ _ (hHeld.2.1))).trans (hHeld.2.1)
             have HS2_ := (hb.cell (World.block_lt_of_cell? _ _ (hHeld.2.2.1))).trans (hHeld.2.2.1)
             have HS3_ := (hb.cell (World.block_lt_of_cell? _ _ (hHeld.2.2.2))).trans (hHeld.2.2.2)
             refine ⟨_, rfl, ?_⟩
             replace HO150 := Aside0.mk (Kd.R_below HO150.out hb)
             replace BK147 := Aside0.mk (blk_below BK147.out hb)
             replace BK159 := Aside0.mk (blk_below BK159.out hb)
             replace HB := Aside0.mk (below_step HB.out hb)
             (try clear hb)
             (try clear hb2)
             (try clear hk)
             (try clear hi)
             refine hK.out _ _ ⟨HS0_, HS1_, HS2_, HS3_⟩ (fun hHeld => ?_)
             clear hK K
             refine norm_ (a' := ?_) ?_ ?_
             rotate_left
             ·show Act.put _ (some 25) _ = _
              simp only [Act.put, List.setIfInBounds_toArray, List.set_cons_zero, List.set_cons_succ, i64_w, i32_w]
              rfl
             exact norm_ (by (simp only [putAll, Act.put, List.setIfInBounds_toArray, List.set_cons_zero, List.set_cons_succ]; done)) (hJ3_7_11_17 (gb159) _ ⟨hHeld, HO150.out, BK147.out, BK159.out, GW159.out, GE159.out, NB147_159.out, NB159_147.out, HB.out⟩)
           ·skip
            rintro _ w26 ⟨hS_, h0_, h1_, h2_⟩
            replace HO150 : Aside0 (Kd.R Kd.string 9 w26 w.heap.size (fun _ => True) (.slice (some ad151) t148.length co21) t148) := ⟨h0_⟩
            replace BK147 : Aside0 (w26.heap[gb147]? = some (.cells #[.int .i64 0, .int .i64 0, .int .i64 0, .int .i64 0, .slice none 0 0] 57 (0, 0))) := ⟨h1_⟩
            replace HB : Aside0 (Below w.heap.size w w26) := ⟨h2_⟩
            clear h0_ h1_ h2_
            have hHeld : w26.cell? ⟨ad151.block, ad151.off + 1, none⟩ = some (.string (rdOf ByteArray.empty t148 1)) ∧ w26.cell? ⟨ad151.block, ad151.off + 3, none⟩ = some (.string (rdOf ByteArray.empty t148 3)) ∧ w26.cell? ⟨ad151.block, ad151.off + 5, none⟩ = some (.string (rdOf ByteArray.empty t148 5)) ∧ w26.cell? ⟨ad151.block, ad151.off + 7, none⟩ = some (.string (rdOf ByteArray.empty t148 7)) := hS_
            refine norm_ (a' := ?_) ?_ ?_
            rotate_left
            ·simp only [putAll, Act.put, List.setIfInBounds_toArray, List.set_cons_zero, List.set_cons_succ]
             rfl
            refine two_ (i := 15) (j := 17) (Ni := some 29) (Nj := some 5) (bs 19 65535) (bs 19 163839) rfl rfl rfl rfl (two_of HT_.out (by kernel_rfl)) (by decide) (by decide) (fun K hK => ?_) (fun K hK => ?_)
            ·skip
             refine goes_ Tryz.func73 (by kernel_rfl) rfl #[.string (rdOf ByteArray.empty t148 7)] (by rfl) rfl rfl (by (try simp only [List.map_toArray, List.map_cons, List.map_nil]); (rfl)) ?_
             with_reducible refine (note_parse.calls (rdOf ByteArray.empty t148 7) t158 _ A15.out).mono ?_
             rintro e w27 ⟨rfl, hb⟩
             have HS0_ := (hb.cell (World.block_lt_of_cell? _ _ (hHeld.1))).trans (hHeld.1)
             have HS1_ := (hb.cell (World.block_lt_of_cell? _ _ (hHeld.2.1))).trans (hHeld.2.1)
             have HS2_ := (hb.cell (World.block_lt_of_cell? _ _ (hHeld.2.2.1))).trans (hHeld.2.2.1)
             have HS3_ := (hb.cell (World.block_lt_of_cell? _ _ (hHeld.2.2.2))).trans (hHeld.2.2.2)
             refine ⟨_, rfl, ?_⟩
             replace HO150 := Aside0.mk (Kd.R_below HO150.out hb)
             replace BK147 := Aside0.mk (blk_below BK147.out hb)
             replace HB := Aside0.mk (below_step HB.out hb)
             (try clear hb)
             (try clear hb2)
             (try clear hk)
             (try clear hi)
             refine hK.out _ _ ⟨HS0_, HS1_, HS2_, HS3_⟩ (fun hHeld => ?_)
             clear hK K
             refine norm_ (a' := ?_) ?_ ?_
             rotate_left
             ·show Act.put _ (some 29) _ = _
              simp only [Act.put, List.setIfInBounds_toArray, List.set_cons_zero, List.set_cons_succ, i64_w, i32_w]
              rfl
             refine pureA_ (i := 16) (N := some 30) (bs 19 131071) HT_ ?_
             exact norm_ (by (simp only [putAll, Act.put, List.setIfInBounds_toArray, List.set_cons_zero, List.set_cons_succ]; done)) (hJ3_7_11_15 () _ ⟨hHeld, HO150.out, BK147.out, HB.out⟩)
            ·skip
             refine box_step ?hg (N := 5) ?hd (cs := #[.int .i64 0, .int .i64 0, .int .i64 0, .int .i64 0, .slice none 0 0]) (t := 57) ?hr ?_; (case hd => rfl); (case hg => rfl); (case hr => (go_simp; done))
             intro gb159 hg w27 hbox hb
             have HS0_ := (hb.cell (World.block_lt_of_cell? _ _ (hHeld.1))).trans (hHeld.1)
             have HS1_ := (hb.cell (World.block_lt_of_cell? _ _ (hHeld.2.1))).trans (hHeld.2.1)
             have HS2_ := (hb.cell (World.block_lt_of_cell? _ _ (hHeld.2.2.1))).trans (hHeld.2.2.1)
             have HS3_ := (hb.cell (World.block_lt_of_cell? _ _ (hHeld.2.2.2))).trans (hHeld.2.2.2)
             have BK159 := Aside0.mk (hbox)
             have GW159 := Aside0.mk ((by rw [hg]; exact below_size HB.out : w.heap.size ≤ gb159))
             have GE159 := Aside0.mk ((by rw [hg]; exact below_size HB.out : w.heap.size ≤ gb159))
             have NB147_159 := Aside0.mk ((by rw [hg]; exact Nat.ne_of_lt (blk_lt BK147.out) : gb147 ≠ gb159))
             have NB159_147 := Aside0.mk ((by rw [hg]; exact Nat.ne_of_gt (blk_lt BK147.out) : gb159 ≠ gb147))
             replace HO150 := Aside0.mk (Kd.R_below HO150.out hb)
             replace BK147 := Aside0.mk (blk_below BK147.out hb)
             replace HB := Aside0.mk (below_step HB.out hb)
             clear hb hbox hg
             refine hK.out _ _ ⟨HS0_, HS1_, HS2_, HS3_⟩ (fun hHeld => ?_)
             clear hK K
             refine norm_ (a' := ?_) ?_ ?_
             rotate_left
             ·show Act.put _ (some 5) _ = _
              simp only [Act.put, List.setIfInBounds_toArray, List.set_cons_zero, List.set_cons_succ, i64_w, i32_w]
              rfl
             exact norm_ (by (simp only [putAll, Act.put, List.setIfInBounds_toArray, List.set_cons_zero, List.set_cons_succ]; done)) (hJ3_7_11_17 (gb159) _ ⟨hHeld, HO150.out, BK147.out, BK159.out, GW159.out, GE159.out, NB147_159.out, NB159_147.out, HB.out⟩)
          ·skip
           rintro gb159 w27 ⟨hS_, h0_, h1_, h2_, h3_, h4_, h5_, h6_, h7_⟩
           have BK159 : Aside0 (w27.heap[gb159]? = some (.cells #[.int .i64 0, .int .i64 0, .int .i64 0, .int .i64 0, .slice none 0 0] 57 (0, 0))) := ⟨h2_⟩
           have GW159 : Aside0 (w.heap.size ≤ gb159) := ⟨h3_⟩
           have GE159 : Aside0 (w.heap.size ≤ gb159) := ⟨h4_⟩
           have NB147_159 : Aside0 (gb147 ≠ gb159) := ⟨h5_⟩
           have NB159_147 : Aside0 (gb159 ≠ gb147) := ⟨h6_⟩
           replace HO150 : Aside0 (Kd.R Kd.string 9 w27 w.heap.size (fun _ => True) (.slice (some ad151) t148.length co21) t148) := ⟨h0_⟩
           replace BK147 : Aside0 (w27.heap[gb147]? = some (.cells #[.int .i64 0, .int .i64 0, .int .i64 0, .int .i64 0, .slice none 0 0] 57 (0, 0))) := ⟨h1_⟩
           replace HB : Aside0 (Below w.heap.size w w27) := ⟨h7_⟩
           clear h0_ h1_ h2_ h3_ h4_ h5_ h6_ h7_
           have hHeld : w27.cell? ⟨ad151.block, ad151.off + 1, none⟩ = some (.string (rdOf ByteArray.empty t148 1)) ∧ w27.cell? ⟨ad151.block, ad151.off + 3, none⟩ = some (.string (rdOf ByteArray.empty t148 3)) ∧ w27.cell? ⟨ad151.block, ad151.off + 5, none⟩ = some (.string (rdOf ByteArray.empty t148 5)) ∧ w27.cell? ⟨ad151.block, ad151.off + 7, none⟩ = some (.string (rdOf ByteArray.empty t148 7)) := hS_
           refine norm_ (a' := ?_) ?_ ?_
           rotate_left
           ·simp only [putAll, Act.put, List.setIfInBounds_toArray, List.set_cons_zero, List.set_cons_succ]
            rfl
           refine one_ (i := 15) (N := some 29) (bs 19 196607) rfl rfl (one_of HT_.out (by kernel_rfl)) (by decide) (fun K hK => ?_)
           refine goes_ Tryz.func73 (by kernel_rfl) rfl #[.string (rdOf ByteArray.empty t148 7)] (by rfl) rfl rfl (by (try simp only [List.map_toArray, List.map_cons, List.map_nil]); (rfl)) ?_
           with_reducible refine (note_parse.calls (rdOf ByteArray.empty t148 7) t158 _ A15.out).mono ?_
           rintro e w28 ⟨rfl, hb⟩
           have HS0_ := (hb.cell (World.block_lt_of_cell? _ _ (hHeld.1))).trans (hHeld.1)
           have HS1_ := (hb.cell (World.block_lt_of_cell? _ _ (hHeld.2.1))).trans (hHeld.2.1)
           have HS2_ := (hb.cell (World.block_lt_of_cell? _ _ (hHeld.2.2.1))).trans (hHeld.2.2.1)
           have HS3_ := (hb.cell (World.block_lt_of_cell? _ _ (hHeld.2.2.2))).trans (hHeld.2.2.2)
           refine ⟨_, rfl, ?_⟩
           replace HO150 := Aside0.mk (Kd.R_below HO150.out hb)
           replace BK147 := Aside0.mk (blk_below BK147.out hb)
           replace BK159 := Aside0.mk (blk_below BK159.out hb)
           replace HB := Aside0.mk (below_step HB.out hb)
           (try clear hb)
           (try clear hb2)
           (try clear hk)
           (try clear hi)
           refine hK.out _ _ ⟨HS0_, HS1_, HS2_, HS3_⟩ (fun hHeld => ?_)
           clear hK K
           refine norm_ (a' := ?_) ?_ ?_
           rotate_left
           ·show Act.put _ (some 29) _ = _
            simp only [Act.put, List.setIfInBounds_toArray, List.set_cons_zero, List.set_cons_succ, i64_w, i32_w]
            rfl
           refine pureA_ (i := 16) (N := some 30) (bs 19 262143) HT_ ?_
           exact norm_ (by (simp only [putAll, Act.put, List.setIfInBounds_toArray, List.set_cons_zero, List.set_cons_succ]; done)) (hJ3_7_11_15_17 (gb159) _ ⟨hHeld, HO150.out, BK147.out, BK159.out, GW159.out, GE159.out, NB147_159.out, NB159_147.out, HB.out⟩)
         ·skip
          rintro _ w27 ⟨hS_, h0_, h1_, h2_⟩
          replace HO150 : Aside0 (Kd.R Kd.string 9 w27 w.heap.size (fun _ => True) (.slice (some ad151) t148.length co21) t148) := ⟨h0_⟩
          replace BK147 : Aside0 (w27.heap[gb147]? = some (.cells #[.int .i64 0, .int .i64 0, .int .i64 0, .int .i64 0, .slice none 0 0] 57 (0, 0))) := ⟨h1_⟩
          replace HB : Aside0 (Below w.heap.size w w27) := ⟨h2_⟩
          clear h0_ h1_ h2_
          have hHeld : w27.cell? ⟨ad151.block, ad151.off + 1, none⟩ = some (.string (rdOf ByteArray.empty t148 1)) ∧ w27.cell? ⟨ad151.block, ad151.off + 3, none⟩ = some (.string (rdOf ByteArray.empty t148 3)) ∧ w27.cell? ⟨ad151.block, ad151.off + 5, none⟩ = some (.string (rdOf ByteArray.empty t148 5)) ∧ w27.cell? ⟨ad151.block, ad151.off + 7, none⟩ = some (.string (rdOf ByteArray.empty t148 7)) := hS_
          refine norm_ (a' := ?_) ?_ ?_
          rotate_left
          ·simp only [putAll, Act.put, List.setIfInBounds_toArray, List.set_cons_zero, List.set_cons_succ]
           rfl
          refine one_ (i := 17) (N := some 5) (bs 19 262143) rfl rfl (one_of HT_.out (by kernel_rfl)) (by decide) (fun K hK => ?_)
          refine box_step ?hg (N := 5) ?hd (cs := #[.int .i64 0, .int .i64 0, .int .i64 0, .int .i64 0, .slice none 0 0]) (t := 57) ?hr ?_; (case hd => rfl); (case hg => rfl); (case hr => (go_simp; done))
          intro gb159 hg w28 hbox hb
          have HS0_ := (hb.cell (World.block_lt_of_cell? _ _ (hHeld.1))).trans (hHeld.1)
          have HS1_ := (hb.cell (World.block_lt_of_cell? _ _ (hHeld.2.1))).trans (hHeld.2.1)
          have HS2_ := (hb.cell (World.block_lt_of_cell? _ _ (hHeld.2.2.1))).trans (hHeld.2.2.1)
          have HS3_ := (hb.cell (World.block_lt_of_cell? _ _ (hHeld.2.2.2))).trans (hHeld.2.2.2)
          have BK159 := Aside0.mk (hbox)
          have GW159 := Aside0.mk ((by rw [hg]; exact below_size HB.out : w.heap.size ≤ gb159))
          have GE159 := Aside0.mk ((by rw [hg]; exact below_size HB.out : w.heap.size ≤ gb159))
          have NB147_159 := Aside0.mk ((by rw [hg]; exact Nat.ne_of_lt (blk_lt BK147.out) : gb147 ≠ gb159))
          have NB159_147 := Aside0.mk ((by rw [hg]; exact Nat.ne_of_gt (blk_lt BK147.out) : gb159 ≠ gb147))
          replace HO150 := Aside0.mk (Kd.R_below HO150.out hb)
          replace BK147 := Aside0.mk (blk_below BK147.out hb)
          replace HB := Aside0.mk (below_step HB.out hb)
          clear hb hbox hg
          refine hK.out _ _ ⟨HS0_, HS1_, HS2_, HS3_⟩ (fun hHeld => ?_)
          clear hK K
          refine norm_ (a' := ?_) ?_ ?_
          rotate_left
          ·show Act.put _ (some 5) _ = _
           simp only [Act.put, List.setIfInBounds_toArray, List.set_cons_zero, List.set_cons_succ, i64_w, i32_w]
           rfl
          exact norm_ (by (simp only [putAll, Act.put, List.setIfInBounds_toArray, List.set_cons_zero, List.set_cons_succ]; done)) (hJ3_7_11_15_17 (gb159) _ ⟨hHeld, HO150.out, BK147.out, BK159.out, GW159.out, GE159.out, NB147_159.out, NB159_147.out, HB.out⟩)
        rintro gb159 w28 ⟨hS_, h0_, h1_, h2_, h3_, h4_, h5_, h6_, h7_⟩
        have BK159 : Aside0 (w28.heap[gb159]? = some (.cells #[.int .i64 0, .int .i64 0, .int .i64 0, .int .i64 0, .slice none 0 0] 57 (0, 0))) := ⟨h2_⟩
        have GW159 : Aside0 (w.heap.size ≤ gb159) := ⟨h3_⟩
        have GE159 : Aside0 (w.heap.size ≤ gb159) := ⟨h4_⟩
        have NB147_159 : Aside0 (gb147 ≠ gb159) := ⟨h5_⟩
        have NB159_147 : Aside0 (gb159 ≠ gb147) := ⟨h6_⟩
        replace HO150 : Aside0 (Kd.R Kd.string 9 w28 w.heap.size (fun _ => True) (.slice (some ad151) t148.length co21) t148) := ⟨h0_⟩
        replace BK147 : Aside0 (w28.heap[gb147]? = some (.cells #[.int .i64 0, .int .i64 0, .int .i64 0, .int .i64 0, .slice none 0 0] 57 (0, 0))) := ⟨h1_⟩
        replace HB : Aside0 (Below w.heap.size w w28) := ⟨h7_⟩
        clear h0_ h1_ h2_ h3_ h4_ h5_ h6_ h7_
        have hHeld : w28.cell? ⟨ad151.block, ad151.off + 1, none⟩ = some (.string (rdOf ByteArray.empty t148 1)) ∧ w28.cell? ⟨ad151.block, ad151.off + 3, none⟩ = some (.string (rdOf ByteArray.empty t148 3)) ∧ w28.cell? ⟨ad151.block, ad151.off + 5, none⟩ = some (.string (rdOf ByteArray.empty t148 5)) ∧ w28.cell? ⟨ad151.block, ad151.off + 7, none⟩ = some (.string (rdOf ByteArray.empty t148 7)) := hS_
        refine norm_ (a' := ?_) ?_ ?_
        rotate_left
        ·simp only [putAll, Act.put, List.setIfInBounds_toArray, List.set_cons_zero, List.set_cons_succ]
         rfl
        refine one_ (i := 18) (N := none) (bs 19 524287) rfl rfl (one_of HT_.out (by kernel_rfl)) (by decide) (fun K hK => ?_)
        have hs29 : w28.cell? ⟨gb159, 0, none⟩ = some (.int .i64 0) := (blk_cell BK159.out 0).trans rfl
        have hfs29 := blk_frozen BK159.out 0
        have hns29_0 := NB147_159.out
        have hms29_0 := NB159_147.out
        have hs30 : w28.cell? ⟨gb159, 1, none⟩ = some (.int .i64 0) := (blk_cell BK159.out 1).trans rfl
        have hfs30 := blk_frozen BK159.out 1
        have hns30_0 := NB147_159.out
        have hms30_0 := NB159_147.out
        have hs31 : w28.cell? ⟨gb159, 2, none⟩ = some (.int .i64 0) := (blk_cell BK159.out 2).trans rfl
        have hfs31 := blk_frozen BK159.out 2
        have hns31_0 := NB147_159.out
        have hms31_0 := NB159_147.out
        have hs32 : w28.cell? ⟨gb159, 3, none⟩ = some (.int .i64 0) := (blk_cell BK159.out 3).trans rfl
        have hfs32 := blk_frozen BK159.out 3
        have hns32_0 := NB147_159.out
        have hms32_0 := NB159_147.out
        have hs33 : w28.cell? ⟨gb159, 4, none⟩ = some (.slice none 0 0) := (blk_cell BK159.out 4).trans rfl
        have hfs33 := blk_frozen BK159.out 4
        have hns33_0 := NB147_159.out
        have hms33_0 := NB159_147.out
        refine skip_ (w1 := ?_) (by rfl) rfl ?_ ?_
        rotate_left
        ·go_simp
         rfl
        refine hK.out _ _ ⟨((cell_far (p := ⟨gb159, _, none⟩) (by (dsimp only; exact Kd.own_blk (Kd.R_ne HO150.out BK159.out (by decide)))) _).trans (((cell_far (p := ⟨gb159, _, none⟩) (by (dsimp only; exact Kd.own_blk (Kd.R_ne HO150.out BK159.out (by decide)))) _).trans (((cell_far (p := ⟨gb159, _, none⟩) (by (dsimp only; exact Kd.own_blk (Kd.R_ne HO150.out BK159.out (by decide)))) _).trans (((cell_far (p := ⟨gb159, _, none⟩) (by (dsimp only; exact Kd.own_blk (Kd.R_ne HO150.out BK159.out (by decide)))) _).trans (((cell_far (p := ⟨gb159, _, none⟩) (by (dsimp only; exact Kd.own_blk (Kd.R_ne HO150.out BK159.out (by decide)))) _).trans (hHeld.1)))))))))), ((cell_far (p := ⟨gb159, _, none⟩) (by (dsimp only; exact Kd.own_blk (Kd.R_ne HO150.out BK159.out (by decide)))) _).trans (((cell_far (p := ⟨gb159, _, none⟩) (by (dsimp only; exact Kd.own_blk (Kd.R_ne HO150.out BK159.out (by decide)))) _).trans (((cell_far (p := ⟨gb159, _, none⟩) (by (dsimp only; exact Kd.own_blk (Kd.R_ne HO150.out BK159.out (by decide)))) _).trans (((cell_far (p := ⟨gb159, _, none⟩) (by (dsimp only; exact Kd.own_blk (Kd.R_ne HO150.out BK159.out (by decide)))) _).trans (((cell_far (p := ⟨gb159, _, none⟩) (by (dsimp only; exact Kd.own_blk (Kd.R_ne HO150.out BK159.out (by decide)))) _).trans (hHeld.2.1)))))))))), ((cell_far (p := ⟨gb159, _, none⟩) (by (dsimp only; exact Kd.own_blk (Kd.R_ne HO150.out BK159.out (by decide)))) _).trans (((cell_far (p := ⟨gb159, _, none⟩) (by (dsimp only; exact Kd.own_blk (Kd.R_ne HO150.out BK159.out (by decide)))) _).trans (((cell_far (p := ⟨gb159, _, none⟩) (by (dsimp only; exact Kd.own_blk (Kd.R_ne HO150.out BK159.out (by decide)))) _).trans (((cell_far (p := ⟨gb159, _, none⟩) (by (dsimp only; exact Kd.own_blk (Kd.R_ne HO150.out BK159.out (by decide)))) _).trans (((cell_far (p := ⟨gb159, _, none⟩) (by (dsimp only; exact Kd.own_blk (Kd.R_ne HO150.out BK159.out (by decide)))) _).trans (hHeld.2.2.1)))))))))), ((cell_far (p := ⟨gb159, _, none⟩) (by (dsimp only; exact Kd.own_blk (Kd.R_ne HO150.out BK159.out (by decide)))) _).trans (((cell_far (p := ⟨gb159, _, none⟩) (by (dsimp only; exact Kd.own_blk (Kd.R_ne HO150.out BK159.out (by decide)))) _).trans (((cell_far (p := ⟨gb159, _, none⟩) (by (dsimp only; exact Kd.own_blk (Kd.R_ne HO150.out BK159.out (by decide)))) _).trans (((cell_far (p := ⟨gb159, _, none⟩) (by (dsimp only; exact Kd.own_blk (Kd.R_ne HO150.out BK159.out (by decide)))) _).trans (((cell_far (p := ⟨gb159, _, none⟩) (by (dsimp only; exact Kd.own_blk (Kd.R_ne HO150.out BK159.out (by decide)))) _).trans (hHeld.2.2.2))))))))))⟩ (fun hHeld => ?_)
        clear hK K
        refine done_ (done_of HT_.out (by kernel_rfl)) ?_
        have n0_ : Aside0 (Kd.R Kd.string 9 (((((w28.setCell ⟨gb159, 0, none⟩ (.int .i64 t152)).setCell ⟨gb159, 1, none⟩ (.int .i64 t154)).setCell ⟨gb159, 2, none⟩ (.int .i64 t156)).setCell ⟨gb159, 3, none⟩ (.int .i64 t158)).setCell ⟨gb159, 4, none⟩ (.slice none 0 0)) w.heap.size (fun _ => True) (.slice (some ad151) t148.length co21) t148) := ⟨by exact Kd.R_mono (Kd.R_far (p := ⟨gb159, 4, none⟩) (Kd.R_far (p := ⟨gb159, 3, none⟩) (Kd.R_far (p := ⟨gb159, 2, none⟩) (Kd.R_far (p := ⟨gb159, 1, none⟩) (Kd.R_far (p := ⟨gb159, 0, none⟩) (Kd.R_types HO150.out BK159.out (by decide)) (fun _ hk => hk.2) (.int .i64 t152)) (fun _ hk => hk.2) (.int .i64 t154)) (fun _ hk => hk.2) (.int .i64 t156)) (fun _ hk => hk.2) (.int .i64 t158)) (fun _ hk => hk.2) (.slice none 0 0)) (fun _ hk => trivial)⟩
        have n1_ : Aside0 ((((((w28.setCell ⟨gb159, 0, none⟩ (.int .i64 t152)).setCell ⟨gb159, 1, none⟩ (.int .i64 t154)).setCell ⟨gb159, 2, none⟩ (.int .i64 t156)).setCell ⟨gb159, 3, none⟩ (.int .i64 t158)).setCell ⟨gb159, 4, none⟩ (.slice none 0 0)).heap[gb147]? = some (.cells #[.int .i64 0, .int .i64 0, .int .i64 0, .int .i64 0, .slice none 0 0] 57 (0, 0))) := ⟨by refine blk_far ?_ NB147_159.out _; refine blk_far ?_ NB147_159.out _; refine blk_far ?_ NB147_159.out _; refine blk_far ?_ NB147_159.out _; refine blk_far ?_ NB147_159.out _; exact BK147.out⟩
        have n2_ : Aside0 ((((((w28.setCell ⟨gb159, 0, none⟩ (.int .i64 t152)).setCell ⟨gb159, 1, none⟩ (.int .i64 t154)).setCell ⟨gb159, 2, none⟩ (.int .i64 t156)).setCell ⟨gb159, 3, none⟩ (.int .i64 t158)).setCell ⟨gb159, 4, none⟩ (.slice none 0 0)).heap[gb159]? = some (.cells #[.int .i64 t152, .int .i64 t154, .int .i64 t156, .int .i64 t158, .slice none 0 0] 57 (0, 0))) := ⟨by refine blk_put (cs := #[.int .i64 t152, .int .i64 t154, .int .i64 t156, .int .i64 t158, .slice none 0 0]) ?_ 4 _ rfl; refine blk_put (cs := #[.int .i64 t152, .int .i64 t154, .int .i64 t156, .int .i64 0, .slice none 0 0]) ?_ 3 _ rfl; refine blk_put (cs := #[.int .i64 t152, .int .i64 t154, .int .i64 0, .int .i64 0, .slice none 0 0]) ?_ 2 _ rfl; refine blk_put (cs := #[.int .i64 t152, .int .i64 0, .int .i64 0, .int .i64 0, .slice none 0 0]) ?_ 1 _ rfl; refine blk_put (cs := #[.int .i64 0, .int .i64 0, .int .i64 0, .int .i64 0, .slice none 0 0]) ?_ 0 _ rfl; exact BK159.out⟩
        have n3_ : Aside0 (Below w.heap.size w (((((w28.setCell ⟨gb159, 0, none⟩ (.int .i64 t152)).setCell ⟨gb159, 1, none⟩ (.int .i64 t154)).setCell ⟨gb159, 2, none⟩ (.int .i64 t156)).setCell ⟨gb159, 3, none⟩ (.int .i64 t158)).setCell ⟨gb159, 4, none⟩ (.slice none 0 0))) := ⟨by repeat ((with_reducible first | exact HB.out | refine below_set ?_ GE159.out))⟩
        (try clear HO150)
        (try clear BK147)
        (try clear BK159)
        (try clear HB)
        generalize (((((w28.setCell ⟨gb159, 0, none⟩ (.int .i64 t152)).setCell ⟨gb159, 1, none⟩ (.int .i64 t154)).setCell ⟨gb159, 2, none⟩ (.int .i64 t156)).setCell ⟨gb159, 3, none⟩ (.int .i64 t158)).setCell ⟨gb159, 4, none⟩ (.slice none 0 0)) = w34 at n0_ n1_ n2_ n3_ ⊢
        have HO150 := n0_
        have BK147 := n1_
        have BK159 := n2_
        have HB := n3_
        clear n0_ n1_ n2_ n3_
        have q35 : ((ji16) : Int) ≤ ((t148.length : Int) : Int) := of_decide_eq_true (by (with_reducible assumption))
        obtain ⟨i035, hi035, _, hsz35, _⟩ := info_parts info9
        have hroom35 : t148.length ≤ co21 := (Kd.R_reads' HO150.out).2.1
        have hC35 : Kd.F Kd.string _ _ (some ad151) t148.length t148 := (Kd.V_at (base := w.heap.size) (Kd.R_V (Kd.R_types (Kd.R_types (HO150.out) BK147.out (by decide)) BK159.out (by decide)))).2.2
        have q035 : (0 : Int) ≤ ((ji16) : Int) := of_decide_eq_true (by (with_reducible assumption))
        have hcut35 := cut_from (P := Tryz.prog) 78 9 .i64 Tryz.underlying78 hi035 1 hsz35 (some ad151) t148.length co21 (ji16) q035 q35
        have hr35 := Kd.F_cut (m := ((ji16) : Int).toNat) (c := co21) hC35 (by omega) hroom35
        obtain ⟨A35, hA35⟩ : ∃ A1, A1 = (if co21 = ((ji16) : Int).toNat then (some ad151) else ((some ad151) : Option Addr).map (·.add (((ji16) : Int).toNat * 1))) := ⟨_, rfl⟩
        obtain ⟨c35, hc35⟩ : ∃ c1, c1 = co21 - ((ji16) : Int).toNat := ⟨_, rfl⟩
        have hy35 : y160.length = t148.length - ((ji16) : Int).toNat := (by rw [Ny160.out, List.length_drop] <;> omega)
        rw [show (t148).drop ((ji16) : Int).toNat = y160 from Ny160.out.symm] at hr35
        replace hr35 : Kd.F Kd.string _ _ A35 y160.length y160 := (by rw [hA35]; exact hr35)
        rw [← hy35, ← hA35, ← hc35] at hcut35
        have HO164 := Aside0.mk (show Kd.V Kd.string 9 _ w.heap.size _ (.slice A35 y160.length c35) y160 from Kd.V_mk (by rw [hy35, hc35]; exact Nat.sub_le_sub_right hroom35 _) hr35)
        have HC164 := Aside0.mk (show y160.length ≤ c35 from by rw [hy35, hc35]; exact Nat.sub_le_sub_right hroom35 _)
        clear hr35 hC35 hroom35 hi035 hsz35 hc35
        have KY35 := Aside0.mk hy35
        have KA35 := Aside0.mk hA35
        clear hy35 hA35
        replace q35 := eq_true q35
        try go_wp2
        go_loopg [37] k (fun kq v37 w' => ∃ (x37_1 : Int) (x160004_1 : List Int) (u160004 : Value), v37 = .int .i64 x37_1 ∧ Aside0 (note_GetConfig.l0 kq a0 y160 (y160.length : Int) x37_1 t152 t154 t156 t158 x160004_1 = some (r1, r2, r3, r4, r5, r6)) ∧ Aside0 (kq ≤ k) ∧ Aside0 (Kd.V Kd.string 9 w' w.heap.size (fun k_ => some k_ ≠ (u160004 : Value).ownBlock ∧ k_ ≠ gb147 ∧ k_ ≠ gb159) (.slice A35 y160.length c35) y160) ∧ Aside0 (Kd.R (Kd.int .i64) 3 w' w.heap.size (fun _ => True) u160004 x160004_1) ∧ Aside0 (w'.heap[gb147]? = some (.cells #[.int .i64 0, .int .i64 0, .int .i64 0, .int .i64 0, (.slice none 0 0)] 57 (0, 0))) ∧ Aside0 (w'.heap[gb159]? = some (.cells #[.int .i64 t152, .int .i64 t154, .int .i64 t156, .int .i64 t158, u160004] 57 (0, 0))) ∧ Aside0 (Below w.heap.size w w'))
        case atStart => exact ⟨(0), (([] : List Int)), (.slice none 0 0), (by (rfl)), H', ⟨Nat.le_refl _⟩, ⟨by exact Kd.V_mono HO164.out (fun _ hk => ⟨(by simp [Value.ownBlock]), ⟨hk.1.2, hk.2⟩⟩)⟩, ⟨by (exact Kd.R_nil _ _ _ _ _)⟩, ⟨BK147.out⟩, ⟨BK159.out⟩, ⟨HB.out⟩⟩
        case round =>
         clear H'
         try clear q35
         try clear q035
         obtain ⟨x37_1, x160004_1, u160004, rfl, HA, HK1, HO_35, HO_160004, BK147, BK159, HB⟩ := hrel
         cases gk with
         | zero => exact absurd HA.out (by simp [note_GetConfig.l0])
         | succ k1 =>
          have H := HA.out
          clear HA
          simp only [note_GetConfig.l0] at H
          by_cases c36 : x37_1 < (y160.length : Int)
          ·rw [if_pos c36] at H
           have c36b0 : decide (x37_1 < (y160.length : Int)) = true := decide_eq_true c36
           clear c36
           by_cases c37 : 0 ≤ x37_1
           ·rw [if_pos c37] at H
            have c37b0 : decide (0 ≤ x37_1) = true := decide_eq_true c37
            clear c37
            by_cases c38 : x37_1 < (y160.length : Int)
            ·rw [if_pos c38] at H
             have c38b0 : decide (x37_1 < (y160.length : Int)) = true := decide_eq_true c38
             clear c38
             replace H := Option.bind_eq_some_iff.mp H
             obtain ⟨t166, A390, H⟩ := H
             have A39 := Aside0.mk A390
             clear A390
             by_cases c40 : x160004_1.length < 17592186044416
             ·rw [if_pos c40] at H
              have LMc40 := Aside0.mk c40
              clear c40
              obtain ⟨y167, hy167⟩ : ∃ y_ : List Int, y_ = (x160004_1 ++ [t166]) := ⟨_, rfl⟩
              replace H : (note_GetConfig.l0 k1 a0 y160 (y160.length : Int) (wrap64 (x37_1 + 1)) t152 t154 t156 t158 y167) = some (r1, r2, r3, r4, r5, r6) := by (rw [hy167]; with_reducible exact H)
              have Ny167 := Aside0.mk hy167
              clear hy167
              have H' := Aside0.mk H
              clear H
              have p165 : 0 ≤ (x37_1 : Int) := of_decide_eq_true (by (with_reducible assumption))
              have q165 : x37_1 < (y160.length : Int) := of_decide_eq_true (by (with_reducible assumption))
              obtain ⟨ad165, e165, hx165_0⟩ := Kd.at_string (Kd.V_reads' HO_35.out).2.2 x37_1 p165 q165
              cases e165
              replace p165 := eq_true p165
              replace q165 := eq_true q165
              try go_wp2
              replace HO_35 := Aside0.mk (Kd.V_drew HO_35.out)
              replace HO_160004 := Aside0.mk (Kd.R_drew HO_160004.out)
              replace BK147 := Aside0.mk (blk_drew BK147.out)
              replace BK159 := Aside0.mk (blk_drew BK159.out)
              replace HB := Aside0.mk (below_drew1 HB.out)
              refine start_ (n := 8) (S := fun w' => w'.cell? ⟨gb159, 0, none⟩ = some (.int .i64 t152) ∧ w'.cell? ⟨gb159, 1, none⟩ = some (.int .i64 t154) ∧ w'.cell? ⟨gb159, 2, none⟩ = some (.int .i64 t156) ∧ w'.cell? ⟨gb159, 3, none⟩ = some (.int .i64 t158) ∧ w'.cell? ⟨gb159, 4, none⟩ = some (u160004)) (ds := [7]) (bs 8 0) (by kernel_rfl) rfl rfl ⟨(blk_cell BK159.out 0).trans rfl, (blk_cell BK159.out 1).trans rfl, (blk_cell BK159.out 2).trans rfl, (blk_cell BK159.out 3).trans rfl, (blk_cell BK159.out 4).trans rfl⟩ (fun hHeld => ?_); refine with_tabW note_GetConfig.tab8 note_GetConfig.bits8 (fun HT_ HW_ => ?_)
              generalize wr.drew = w41 at HO_35 HO_160004 BK147 BK159 HB hHeld ⊢
              refine pureA_ (i := 0) (N := some 41) (bs 8 1) HT_ ?_
              refine pureA_ (i := 2) (N := some 43) (bs 8 5) HT_ ?_
              refine takeA_ (i := 1) (N := some 42) (bs 8 7) HT_ HW_ hHeld ?_
              refine one_ (i := 3) (N := some 44) (bs 8 15) rfl rfl (one_of HT_.out (by kernel_rfl)) (by decide) (fun K hK => ?_)
              refine goes_ Tryz.func73 (by kernel_rfl) rfl #[.string (rdOf ByteArray.empty y160 x37_1)] (by rfl) rfl rfl (by (try simp only [List.map_toArray, List.map_cons, List.map_nil]); (rfl)) ?_
              with_reducible refine (note_parse.calls (rdOf ByteArray.empty y160 x37_1) t166 _ A39.out).mono ?_
              rintro e w42 ⟨rfl, hb⟩
              refine ⟨_, rfl, ?_⟩
              replace HO_35 := Aside0.mk (Kd.V_below HO_35.out hb)
              replace HO_160004 := Aside0.mk (Kd.R_below HO_160004.out hb)
              replace BK147 := Aside0.mk (blk_below BK147.out hb)
              replace BK159 := Aside0.mk (blk_below BK159.out hb)
              replace HB := Aside0.mk (below_step HB.out hb)
              (try clear hb)
              (try clear hb2)
              (try clear hk)
              (try clear hi)
              refine hK.out _ _ ⟨(blk_cell BK159.out 0).trans rfl, (blk_cell BK159.out 1).trans rfl, (blk_cell BK159.out 2).trans rfl, (blk_cell BK159.out 3).trans rfl, (blk_cell BK159.out 4).trans rfl⟩ (fun hHeld => ?_)
              clear hK K
              refine norm_ (a' := ?_) ?_ ?_
              rotate_left
              ·show Act.put _ (some 44) _ = _
               simp only [Act.put, List.setIfInBounds_toArray, List.set_cons_zero, List.set_cons_succ, i64_w, i32_w]
               rfl
              refine one_ (i := 4) (N := some 45) (bs 8 31) rfl rfl (one_of HT_.out (by kernel_rfl)) (by decide) (fun K hK => ?_)
              refine value_ (w1 := ?_) (v := ?_) (by rfl) rfl ?_ ?_
              rotate_left 2
              ·go_simp
               constructor
               ·rfl
               ·rfl
              refine hK.out _ _ ⟨(blk_cell (blk_alloc BK159.out _) 0).trans rfl, (blk_cell (blk_alloc BK159.out _) 1).trans rfl, (blk_cell (blk_alloc BK159.out _) 2).trans rfl, (blk_cell (blk_alloc BK159.out _) 3).trans rfl, (blk_cell (blk_alloc BK159.out _) 4).trans rfl⟩ (fun hHeld => ?_)
              clear hK K
              refine norm_ (a' := ?_) ?_ ?_
              rotate_left
              ·show Act.put _ (some 45) _ = _
               simp only [Act.put, List.setIfInBounds_toArray, List.set_cons_zero, List.set_cons_succ, i64_w, i32_w]
               rfl
              refine one_ (i := 5) (N := some 46) (bs 8 63) rfl rfl (one_of HT_.out (by kernel_rfl)) (by decide) (fun K hK => ?_)
              refine Kd.R_append_step (Kd.int .i64) (w0 := w) w.heap.size (by rfl) (.tmp 42) (.tmp 45) 34 3 (.int .i64 0) 8 rfl Tryz.underlying34 info3 rfl (by decide) (by omega) u160004 x160004_1 t166 [.int .i64 t166] (fun _ => True) (fun _ => False) rfl rfl ?aP (fun _ hk => hk.elim) ?aF ?aO ?aB ?aS ?aL ?_
              (case aP => exact rfl)
              (case aB => exact HB.out)
              (case aF => exact (fun _ _ => trivial))
              (case aO => exact HO_160004.out)
              (case aS => exact below_size HB.out)
              (case aL => have := LMc40.out; omega)
              intro v168 w43 ho hb hg hat
              rw [← Ny167.out] at ho
              have HO169 := Aside0.mk (ho)
              replace HO_35 := Aside0.mk (Kd.V_afterv (ok := (fun k_ => k_ ≠ gb147 ∧ k_ ≠ gb159)) (by exact Kd.V_mono HO_35.out (fun _ hk => ⟨⟨hk.2.1, hk.2.2⟩, hk.1⟩)) hg hat)
              replace BK147 := Aside0.mk (blk_grown BK147.out hg (Kd.R_ne HO_160004.out BK147.out (by decide)))
              replace BK159 := Aside0.mk (blk_grown BK159.out hg (Kd.R_ne HO_160004.out BK159.out (by decide)))
              replace HB := Aside0.mk (hb)
              clear HO_160004
              clear ho hb hg hat
              obtain ⟨Ao44, co44, eo44⟩ := Kd.R_slice HO169.out
              ((subst eo44))
              refine hK.out _ _ ⟨(blk_cell BK159.out 0).trans rfl, (blk_cell BK159.out 1).trans rfl, (blk_cell BK159.out 2).trans rfl, (blk_cell BK159.out 3).trans rfl, (blk_cell BK159.out 4).trans rfl⟩ (fun hHeld => ?_)
              clear hK K
              refine norm_ (a' := ?_) ?_ ?_
              rotate_left
              ·show Act.put _ (some 46) _ = _
               simp only [Act.put, List.setIfInBounds_toArray, List.set_cons_zero, List.set_cons_succ, i64_w, i32_w]
               rfl
              refine pureA_ (i := 6) (N := some 47) (bs 8 127) HT_ ?_
              refine last_ (i := 7) (N := none) (bs 8 255) rfl rfl (one_of HT_.out (by kernel_rfl)) (by decide) (fun K hK => ?_)
              have hs45 : w43.cell? ⟨gb159, 4, none⟩ = some (u160004) := (blk_cell BK159.out 4).trans rfl
              have hfs45 := blk_frozen BK159.out 4
              have hns45_0 := NB147_159.out
              have hms45_0 := NB159_147.out
              refine skip_ (w1 := ?_) (by rfl) rfl ?_ ?_
              rotate_left
              ·go_simp
               rfl
              refine hK.out _ _ ?_
              clear hK K
              refine done_ (done_of HT_.out (by kernel_rfl)) ?_
              try go_wp2
              go_roundg k1
              case measure => have := HK1.out; omega
              case rel => exact ⟨(wrap64 (x37_1 + 1)), (y167), (.slice Ao44 y167.length co44), (by (rfl)), H', ⟨by have := HK1.out; omega⟩, ⟨by exact Kd.V_mono (Kd.V_far (p := ⟨gb159, 4, none⟩) (Kd.V_mono HO_35.out (fun k_ hk => (⟨hk, hk.1.2⟩ : _ ∧ k_ ≠ gb159))) (fun _ hk => hk.2) (.slice Ao44 y167.length co44)) (fun _ hk => ⟨hk.1.2, ⟨hk.1.1.1, hk.1.1.2⟩⟩)⟩, ⟨by exact Kd.R_mono (Kd.R_far (p := ⟨gb159, 4, none⟩) (Kd.R_types HO169.out BK159.out (by decide)) (fun _ hk => hk.2) (.slice Ao44 y167.length co44)) (fun _ hk => trivial)⟩, ⟨by refine blk_far ?_ NB147_159.out _; exact BK147.out⟩, ⟨by refine blk_put (cs := #[.int .i64 t152, .int .i64 t154, .int .i64 t156, .int .i64 t158, u160004]) ?_ 4 _ rfl; exact BK159.out⟩, ⟨by repeat ((with_reducible first | exact HB.out | refine below_set ?_ GE159.out))⟩⟩
             ·rw [if_neg c40] at H
              exact absurd H (by simp)
            ·rw [if_neg c38] at H
             exact absurd H (by simp)
           ·rw [if_neg c37] at H
            exact absurd H (by simp)
          ·rw [if_neg c36] at H
           have c36b0 : decide (x37_1 < (y160.length : Int)) = false := decide_eq_false c36
           clear c36
           replace H := Option.bind_eq_some_iff.mp H
           obtain ⟨t170, A460, H⟩ := H
           have A46 := Aside0.mk A460
           clear A460
           by_cases c47 : t170.toList = a0.toList
           ·rw [if_pos c47] at H
            have c47b0 : (t170.toList == a0.toList) = true := beq_iff_eq.mpr c47
            have c47b1 : (t170.toList != a0.toList) = false := bne_eq_false_iff_eq.mpr c47
            clear c47
            simp only [Option.some.injEq, Prod.mk.injEq] at H
            obtain ⟨rfl, rfl, rfl, rfl, rfl, rfl⟩ := H
            have hnb48 := NB159_147.out
            have hnc48 := NB147_159.out
            have hcz49_0 : wr.cell? ⟨gb159, 0, none⟩ = some (.int .i64 t152) := (blk_cell BK159.out 0).trans rfl
            have hcz49_1 : wr.cell? ⟨gb159, 1, none⟩ = some (.int .i64 t154) := (blk_cell BK159.out 1).trans rfl
            have hcz49_2 : wr.cell? ⟨gb159, 2, none⟩ = some (.int .i64 t156) := (blk_cell BK159.out 2).trans rfl
            have hcz49_3 : wr.cell? ⟨gb159, 3, none⟩ = some (.int .i64 t158) := (blk_cell BK159.out 3).trans rfl
            have hcz49_4 : wr.cell? ⟨gb159, 4, none⟩ = some (u160004) := (blk_cell BK159.out 4).trans rfl
            have hfz49_0 := blk_frozen BK159.out 0
            have hfz49_1 := blk_frozen BK159.out 1
            have hfz49_2 := blk_frozen BK159.out 2
            have hfz49_3 := blk_frozen BK159.out 3
            have hfz49_4 := blk_frozen BK159.out 4
            obtain ⟨Ao50, co50, eo50⟩ := Kd.R_slice HO_160004.out
            subst eo50
            go_wp2_with (((with_reducible refine gate_callee (f := 59) rfl ?_); refine goesL_ (some 50) rfl rfl Tryz.func59 (by kernel_rfl) rfl #[.agg #[.int .i64 t152, .int .i64 t154, .int .i64 t156, .int .i64 t158, .slice Ao50 x160004_1.length co50]] rfl (by (try simp only [List.map_toArray, List.map_cons, List.map_nil]); (rfl)) ?_; (with_reducible refine (note_PutConfig.calls k1 t152 t154 t156 t158 _ _ x160004_1 t170 _ ?side1 ?side2 A46.out).mono ?_); (case side1 => repeat ((exact (Kd.R_reads' HO_160004.out).2.2))); (case side2 => exact (Kd.R_reads' HO_160004.out).2.1); rintro e w51 ⟨rfl, hb⟩; refine ⟨_, rfl, ?_⟩; replace HO_35 := Aside0.mk (Kd.V_below HO_35.out hb); replace HO_160004 := Aside0.mk (Kd.R_below HO_160004.out hb); replace BK147 := Aside0.mk (blk_below BK147.out hb); replace BK159 := Aside0.mk (blk_below BK159.out hb); replace HB := Aside0.mk (below_step HB.out hb); (try clear hb); (try clear hb2); (try clear hk); (try clear hi); have hcz52_0 : w51.cell? ⟨gb159, 0, none⟩ = some (.int .i64 t152) := (blk_cell BK159.out 0).trans rfl; have hcz52_1 : w51.cell? ⟨gb159, 1, none⟩ = some (.int .i64 t154) := (blk_cell BK159.out 1).trans rfl; have hcz52_2 : w51.cell? ⟨gb159, 2, none⟩ = some (.int .i64 t156) := (blk_cell BK159.out 2).trans rfl; have hcz52_3 : w51.cell? ⟨gb159, 3, none⟩ = some (.int .i64 t158) := (blk_cell BK159.out 3).trans rfl; have hcz52_4 : w51.cell? ⟨gb159, 4, none⟩ = some (.slice Ao50 x160004_1.length co50) := (blk_cell BK159.out 4).trans rfl; have hfz52_0 := blk_frozen BK159.out 0; have hfz52_1 := blk_frozen BK159.out 1; have hfz52_2 := blk_frozen BK159.out 2; have hfz52_3 := blk_frozen BK159.out 3; have hfz52_4 := blk_frozen BK159.out 4; have hcz53_0 : w51.cell? ⟨gb147, 0, none⟩ = some (.int .i64 0) := (blk_cell BK147.out 0).trans rfl; have hcz53_1 : w51.cell? ⟨gb147, 1, none⟩ = some (.int .i64 0) := (blk_cell BK147.out 1).trans rfl; have hcz53_2 : w51.cell? ⟨gb147, 2, none⟩ = some (.int .i64 0) := (blk_cell BK147.out 2).trans rfl; have hcz53_3 : w51.cell? ⟨gb147, 3, none⟩ = some (.int .i64 0) := (blk_cell BK147.out 3).trans rfl; have hcz53_4 : w51.cell? ⟨gb147, 4, none⟩ = some (.slice none 0 0) := (blk_cell BK147.out 4).trans rfl; have hfz53_0 := blk_frozen BK147.out 0; have hfz53_1 := blk_frozen BK147.out 1; have hfz53_2 := blk_frozen BK147.out 2; have hfz53_3 := blk_frozen BK147.out 3; have hfz53_4 := blk_frozen BK147.out 4))
            refine bodyPost_ret (results_ct rfl _ _ gb147 57 #[.int .i64 t152, .int .i64 t154, .int .i64 t156, .int .i64 t158, .slice Ao50 x160004_1.length co50] (0, 0) _ rfl (by refine blk_put (cs := #[.int .i64 t152, .int .i64 t154, .int .i64 t156, .int .i64 t158, .slice none 0 0]) ?_ 4 _ rfl; refine blk_put (cs := #[.int .i64 t152, .int .i64 t154, .int .i64 t156, .int .i64 0, .slice none 0 0]) ?_ 3 _ rfl; refine blk_put (cs := #[.int .i64 t152, .int .i64 t154, .int .i64 0, .int .i64 0, .slice none 0 0]) ?_ 2 _ rfl; refine blk_put (cs := #[.int .i64 t152, .int .i64 0, .int .i64 0, .int .i64 0, .slice none 0 0]) ?_ 1 _ rfl; refine blk_put (cs := #[.int .i64 0, .int .i64 0, .int .i64 0, .int .i64 0, .slice none 0 0]) ?_ 0 _ rfl; exact BK147.out) Tryz.underlying57 rfl (by kernel_rfl)) rfl ?_
            exact ⟨_, by (rfl), by exact Kd.R_mono (Kd.R_far (p := ⟨gb147, 4, none⟩) (Kd.R_far (p := ⟨gb147, 3, none⟩) (Kd.R_far (p := ⟨gb147, 2, none⟩) (Kd.R_far (p := ⟨gb147, 1, none⟩) (Kd.R_far (p := ⟨gb147, 0, none⟩) (Kd.R_types HO_160004.out BK147.out (by decide)) (fun _ hk => hk.2) (.int .i64 t152)) (fun _ hk => hk.2) (.int .i64 t154)) (fun _ hk => hk.2) (.int .i64 t156)) (fun _ hk => hk.2) (.int .i64 t158)) (fun _ hk => hk.2) (.slice Ao50 x160004_1.length co50)) (fun _ hk => trivial), by repeat ((with_reducible first | exact HB.out | refine below_set ?_ GE147.out))⟩
           ·rw [if_neg c47] at H
            have c47b0 : (t170.toList == a0.toList) = false := beq_eq_false_iff_ne.mpr c47
            have c47b1 : (t170.toList != a0.toList) = true := bne_iff_ne.mpr c47
            simp only [Option.some.injEq, Prod.mk.injEq] at H
            obtain ⟨rfl, rfl, rfl, rfl, rfl, rfl⟩ := H
            have hnb54 := NB159_147.out
            have hnc54 := NB147_159.out
            have hcz55_0 : wr.cell? ⟨gb159, 0, none⟩ = some (.int .i64 t152) := (blk_cell BK159.out 0).trans rfl
            have hcz55_1 : wr.cell? ⟨gb159, 1, none⟩ = some (.int .i64 t154) := (blk_cell BK159.out 1).trans rfl
            have hcz55_2 : wr.cell? ⟨gb159, 2, none⟩ = some (.int .i64 t156) := (blk_cell BK159.out 2).trans rfl
            have hcz55_3 : wr.cell? ⟨gb159, 3, none⟩ = some (.int .i64 t158) := (blk_cell BK159.out 3).trans rfl
            have hcz55_4 : wr.cell? ⟨gb159, 4, none⟩ = some (u160004) := (blk_cell BK159.out 4).trans rfl
            have hfz55_0 := blk_frozen BK159.out 0
            have hfz55_1 := blk_frozen BK159.out 1
            have hfz55_2 := blk_frozen BK159.out 2
            have hfz55_3 := blk_frozen BK159.out 3
            have hfz55_4 := blk_frozen BK159.out 4
            obtain ⟨Ao56, co56, eo56⟩ := Kd.R_slice HO_160004.out
            subst eo56
            go_wp2_with (((with_reducible refine gate_callee (f := 59) rfl ?_); refine goesL_ (some 50) rfl rfl Tryz.func59 (by kernel_rfl) rfl #[.agg #[.int .i64 t152, .int .i64 t154, .int .i64 t156, .int .i64 t158, .slice Ao56 x160004_1.length co56]] rfl (by (try simp only [List.map_toArray, List.map_cons, List.map_nil]); (rfl)) ?_; (with_reducible refine (note_PutConfig.calls k1 t152 t154 t156 t158 _ _ x160004_1 t170 _ ?side1 ?side2 A46.out).mono ?_); (case side1 => repeat ((exact (Kd.R_reads' HO_160004.out).2.2))); (case side2 => exact (Kd.R_reads' HO_160004.out).2.1); rintro e w57 ⟨rfl, hb⟩; refine ⟨_, rfl, ?_⟩; replace HO_35 := Aside0.mk (Kd.V_below HO_35.out hb); replace HO_160004 := Aside0.mk (Kd.R_below HO_160004.out hb); replace BK147 := Aside0.mk (blk_below BK147.out hb); replace BK159 := Aside0.mk (blk_below BK159.out hb); replace HB := Aside0.mk (below_step HB.out hb); (try clear hb); (try clear hb2); (try clear hk); (try clear hi); have hcz58_0 : w57.cell? ⟨gb147, 0, none⟩ = some (.int .i64 0) := (blk_cell BK147.out 0).trans rfl; have hcz58_1 : w57.cell? ⟨gb147, 1, none⟩ = some (.int .i64 0) := (blk_cell BK147.out 1).trans rfl; have hcz58_2 : w57.cell? ⟨gb147, 2, none⟩ = some (.int .i64 0) := (blk_cell BK147.out 2).trans rfl; have hcz58_3 : w57.cell? ⟨gb147, 3, none⟩ = some (.int .i64 0) := (blk_cell BK147.out 3).trans rfl; have hcz58_4 : w57.cell? ⟨gb147, 4, none⟩ = some (.slice none 0 0) := (blk_cell BK147.out 4).trans rfl; have hfz58_0 := blk_frozen BK147.out 0; have hfz58_1 := blk_frozen BK147.out 1; have hfz58_2 := blk_frozen BK147.out 2; have hfz58_3 := blk_frozen BK147.out 3; have hfz58_4 := blk_frozen BK147.out 4))
            refine bodyPost_ret (results_ct rfl _ _ gb147 57 #[.int .i64 0, .int .i64 0, .int .i64 0, .int .i64 0, .slice none 0 0] (0, 0) _ rfl (by refine blk_put (cs := #[.int .i64 0, .int .i64 0, .int .i64 0, .int .i64 0, .slice none 0 0]) ?_ 4 _ rfl; refine blk_put (cs := #[.int .i64 0, .int .i64 0, .int .i64 0, .int .i64 0, .slice none 0 0]) ?_ 3 _ rfl; refine blk_put (cs := #[.int .i64 0, .int .i64 0, .int .i64 0, .int .i64 0, .slice none 0 0]) ?_ 2 _ rfl; refine blk_put (cs := #[.int .i64 0, .int .i64 0, .int .i64 0, .int .i64 0, .slice none 0 0]) ?_ 1 _ rfl; refine blk_put (cs := #[.int .i64 0, .int .i64 0, .int .i64 0, .int .i64 0, .slice none 0 0]) ?_ 0 _ rfl; exact BK147.out) Tryz.underlying57 rfl (by kernel_rfl)) rfl ?_
            exact ⟨_, by (rfl), by (exact Kd.R_nil _ _ _ _ _), by repeat ((with_reducible first | exact HB.out | refine below_set ?_ GE147.out))⟩
       ·rw [if_neg c18] at H
        exact absurd H (by simp)
      ·rw [if_neg c17] at H
       exact absurd H (by simp)
     ·rw [if_neg c14] at H
      exact absurd H (by simp)
    ·rw [if_neg c12] at H
     exact absurd H (by simp)
   ·rw [if_neg c10] at H
    exact absurd H (by simp)
  ·rw [if_neg c8] at H
   exact absurd H (by simp)

end Go.Proofs.YtddepomgaeadpaaGreatDoor.PBeg
