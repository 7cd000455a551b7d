-- Written by a program of this session (wip/pp.py) over the kit's print, with hand-proved contracts beside it.
import Derived.Test.YtddepomgaeadpaaGreatDoorWz
import Derived.Test.YtddepomgaeadpaaGreatDoorPBegx0
import Derived.Test.YtddepomgaeadpaaGreatDoorPBegx3
import Derived.Test.YtddepomgaeadpaaGreatDoorPBegx5
namespace Go.Proofs.YtddepomgaeadpaaGreatDoor.PBeg
open Go.Shelf Go.Lib Go.RowKit Go.Proofs.YtddepomgaeadpaaGreatDoorW.PrintWords Go.Proofs.YtddepomgaeadpaaGreatDoorW.PrintLast Go.Proofs.YtddepomgaeadpaaGreatDoorW.PrintMore
attribute [local go_sem] max2_int min2_int max_two min_two max_three min_three max_four min_four   -- for this text's walks alone
set_option linter.unusedVariables false
set_option linter.unusedSimpArgs false

/-! ### note_PutTask: function 60 -/
def note_PutTask.l0 : Nat → ByteArray → List (S59) → Int → Int → Option (ByteArray)
 | 0, _, _, _, _ => none
 | k + 1, x3, x24, x25, x26 => if x26 < x25 then (if 0 ≤ x26 then (if x26 < (x24.length : Int) then ((note_num.f ((rd_T59 x24 x26).f0)).bind fun t144 => (if 1 + t144.size ≤ 9223372036854775807 then (if ((⟨#[32]⟩ : ByteArray) ++ t144).size + 1 ≤ 9223372036854775807 then ((note_num.f ((rd_T59 x24 x26).f1)).bind fun t145 => (if (((⟨#[32]⟩ : ByteArray) ++ t144) ++ (⟨#[64]⟩ : ByteArray)).size + t145.size ≤ 9223372036854775807 then (if ((((⟨#[32]⟩ : ByteArray) ++ t144) ++ (⟨#[64]⟩ : ByteArray)) ++ t145).size + 1 ≤ 9223372036854775807 then ((note_num.f ((rd_T59 x24 x26).f2)).bind fun t146 => (if (((((⟨#[32]⟩ : ByteArray) ++ t144) ++ (⟨#[64]⟩ : ByteArray)) ++ t145) ++ (⟨#[43]⟩ : ByteArray)).size + t146.size ≤ 9223372036854775807 then (if x3.size + ((((((⟨#[32]⟩ : ByteArray) ++ t144) ++ (⟨#[64]⟩ : ByteArray)) ++ t145) ++ (⟨#[43]⟩ : ByteArray)) ++ t146).size ≤ 9223372036854775807 then (note_PutTask.l0 k (x3 ++ ((((((⟨#[32]⟩ : ByteArray) ++ t144) ++ (⟨#[64]⟩ : ByteArray)) ++ t145) ++ (⟨#[43]⟩ : ByteArray)) ++ t146)) x24 x25 (wrap64 (x26 + 1))) else (none)) else (none))) else (none)) else (none))) else (none)) else (none))) else (none)) else (none)) else (some x3)
def note_PutTask.f (k : Nat) (a0_0 : Int) (a0_1 : Int) (a0_2 : Int) (l0_3 : List (S59)) : Option (ByteArray) := (note_widest.f).bind fun bt131 => ((rule_Task.f k bt131.1 bt131.2.1 bt131.2.2.1 bt131.2.2.2.1 bt131.2.2.2.2 a0_0 a0_1 a0_2 l0_3).bind fun t138 => (if t138 = true then ((note_num.f a0_0).bind fun t139 => (if t139.size + 1 ≤ 9223372036854775807 then ((note_num.f a0_1).bind fun t140 => (if (t139 ++ (⟨#[47]⟩ : ByteArray)).size + t140.size ≤ 9223372036854775807 then (if ((t139 ++ (⟨#[47]⟩ : ByteArray)) ++ t140).size + 1 ≤ 9223372036854775807 then ((note_num.f a0_2).bind fun t141 => (if (((t139 ++ (⟨#[47]⟩ : ByteArray)) ++ t140) ++ (⟨#[47]⟩ : ByteArray)).size + t141.size ≤ 9223372036854775807 then (note_PutTask.l0 k ((((t139 ++ (⟨#[47]⟩ : ByteArray)) ++ t140) ++ (⟨#[47]⟩ : ByteArray)) ++ t141) l0_3 (l0_3.length : Int) 0) else (none))) else (none)) else (none))) else (none))) else (some (⟨#[]⟩ : ByteArray))))
def note_PutTask.T3 : Bool × List (List Nat × List Nat) := (true, [([], []), ([0], [0]), ([1], [1]), ([2], [2]), ([], []), ([4], [4]), ([5, 2], [5]), ([3, 6], [3, 6]), ([7], [7]), ([], []), ([9], [9]), ([10, 6], [10]), ([8, 11], [8, 11]), ([12, 11, 0, 1, 2, 3, 4, 5, 6, 7, 8, 9, 10, 11, 12], [12])])
def note_PutTask.B3 : List Nat := [0, 1, 3, 7, 0, 16, 55, 127, 255, 0, 512, 1655, 4095, 8191]
theorem note_PutTask.tab3 : rtab .any (opsOf Tryz.f60 3) = note_PutTask.T3 := by kernel_rfl
theorem note_PutTask.bits3 : waitsOk note_PutTask.T3.2 note_PutTask.B3 = true := by kernel_rfl
def note_PutTask.T7 : Bool × List (List Nat × List Nat) := (true, [([], []), ([], []), ([1], [1]), ([2], [2]), ([3], [3]), ([4], [4]), ([], []), ([6], [6]), ([7, 3], [7]), ([5, 8], [5, 8]), ([9], [9]), ([], []), ([11], [11]), ([12, 8], [12]), ([10, 13], [10, 13]), ([0, 14], [0, 14]), ([15, 13, 0, 1, 2, 3, 4, 5, 6, 7, 8, 9, 10, 11, 12, 13, 14, 15], [0, 15])])
def note_PutTask.B7 : List Nat := [0, 0, 2, 6, 14, 30, 0, 64, 206, 510, 1022, 0, 2048, 6606, 16382, 32767, 65535]
theorem note_PutTask.tab7 : rtab .any (opsOf Tryz.f60 7) = note_PutTask.T7 := by kernel_rfl
theorem note_PutTask.bits7 : waitsOk note_PutTask.T7.2 note_PutTask.B7 = true := by kernel_rfl
set_option maxHeartbeats 8000000 in
set_option maxRecDepth 100000 in
theorem note_PutTask.calls (k : Nat) (a0_0 : Int) (a0_1 : Int) (a0_2 : Int) (A0_3 : Option Addr) (c0_3 : Nat) (l0_3 : List (S59)) (r : ByteArray) (w : World) (hr0_3 : Kd.C k59 w A0_3 l0_3.length l0_3) (hc0_3 : l0_3.length ≤ c0_3) (h : note_PutTask.f k a0_0 a0_1 a0_2 l0_3 = some r) :
  Calls Tryz.prog 60 #[.agg #[.int .i64 a0_0, .int .i64 a0_1, .int .i64 a0_2, .slice A0_3 l0_3.length c0_3]] w fun e w' => e = .returned (.string r) ∧ Below w.heap.size w w' := by
 have hu62 := Tryz.underlying62
 have hu59 := Tryz.underlying59
 have HR0_3 := Aside0.mk hr0_3
 have HC0_3 := Aside0.mk hc0_3
 clear hr0_3 hc0_3
 have HB := Aside0.mk (Below.refl w.heap.size w)
 have H : ((note_widest.f).bind fun bt131 => ((rule_Task.f k bt131.1 bt131.2.1 bt131.2.2.1 bt131.2.2.2.1 bt131.2.2.2.2 a0_0 a0_1 a0_2 l0_3).bind fun t138 => (if t138 = true then ((note_num.f a0_0).bind fun t139 => (if t139.size + 1 ≤ 9223372036854775807 then ((note_num.f a0_1).bind fun t140 => (if (t139 ++ (⟨#[47]⟩ : ByteArray)).size + t140.size ≤ 9223372036854775807 then (if ((t139 ++ (⟨#[47]⟩ : ByteArray)) ++ t140).size + 1 ≤ 9223372036854775807 then ((note_num.f a0_2).bind fun t141 => (if (((t139 ++ (⟨#[47]⟩ : ByteArray)) ++ t140) ++ (⟨#[47]⟩ : ByteArray)).size + t141.size ≤ 9223372036854775807 then (note_PutTask.l0 k ((((t139 ++ (⟨#[47]⟩ : ByteArray)) ++ t140) ++ (⟨#[47]⟩ : ByteArray)) ++ t141) l0_3 (l0_3.length : Int) 0) else (none))) else (none)) else (none))) else (none))) else (some (⟨#[]⟩ : ByteArray))))) = some r := h
 clear h
 replace H := Option.bind_eq_some_iff.mp H
 obtain ⟨⟨t131, t132, t133, t134, t135⟩, A20, H⟩ := H
 have A2 := Aside0.mk A20
 clear A20
 replace H := Option.bind_eq_some_iff.mp H
 obtain ⟨t138, A30, H⟩ := H
 have A3 := Aside0.mk A30
 clear A30
 by_cases c4 : t138 = true
 ·subst c4
  have H1 : ((note_num.f a0_0).bind fun t139 => (if t139.size + 1 ≤ 9223372036854775807 then ((note_num.f a0_1).bind fun t140 => (if (t139 ++ (⟨#[47]⟩ : ByteArray)).size + t140.size ≤ 9223372036854775807 then (if ((t139 ++ (⟨#[47]⟩ : ByteArray)) ++ t140).size + 1 ≤ 9223372036854775807 then ((note_num.f a0_2).bind fun t141 => (if (((t139 ++ (⟨#[47]⟩ : ByteArray)) ++ t140) ++ (⟨#[47]⟩ : ByteArray)).size + t141.size ≤ 9223372036854775807 then (note_PutTask.l0 k ((((t139 ++ (⟨#[47]⟩ : ByteArray)) ++ t140) ++ (⟨#[47]⟩ : ByteArray)) ++ t141) l0_3 (l0_3.length : Int) 0) else (none))) else (none)) else (none))) else (none))) = some r := by rw [if_pos rfl] at H; exact H
  clear H
  have H := H1
  clear H1
  replace H := Option.bind_eq_some_iff.mp H
  obtain ⟨t139, A50, H⟩ := H
  have A5 := Aside0.mk A50
  clear A50
  by_cases c6 : t139.size + 1 ≤ 9223372036854775807
  ·rw [if_pos c6] at H
   have c6b0 := eq_true c6
   have c6b1 : decide (t139.size + 1 ≤ 9223372036854775807) = true := decide_eq_true c6
   try have c6b2 : (9223372036854775807 < t139.size + 1) = False := eq_false (Nat.not_lt.2 c6)
   replace H := Option.bind_eq_some_iff.mp H
   obtain ⟨t140, A70, H⟩ := H
   have A7 := Aside0.mk A70
   clear A70
   by_cases c8 : (t139 ++ (⟨#[47]⟩ : ByteArray)).size + t140.size ≤ 9223372036854775807
   ·rw [if_pos c8] at H
    have c8b0 := eq_true c8
    have c8b1 : decide ((t139 ++ (⟨#[47]⟩ : ByteArray)).size + t140.size ≤ 9223372036854775807) = true := decide_eq_true c8
    try have c8b2 : (9223372036854775807 < (t139 ++ (⟨#[47]⟩ : ByteArray)).size + t140.size) = False := eq_false (Nat.not_lt.2 c8)
    try have c8b4 : (9223372036854775807 < t139.size + 1 + t140.size) = False := eq_false (by have h_ := of_eq_false c8b2; (try simp only [ByteArray.size_append, show (⟨#[47]⟩ : ByteArray).size = 1 from rfl] at h_); omega)
    by_cases c9 : ((t139 ++ (⟨#[47]⟩ : ByteArray)) ++ t140).size + 1 ≤ 9223372036854775807
    ·rw [if_pos c9] at H
     have c9b0 := eq_true c9
     have c9b1 : decide (((t139 ++ (⟨#[47]⟩ : ByteArray)) ++ t140).size + 1 ≤ 9223372036854775807) = true := decide_eq_true c9
     try have c9b2 : (9223372036854775807 < ((t139 ++ (⟨#[47]⟩ : ByteArray)) ++ t140).size + 1) = False := eq_false (Nat.not_lt.2 c9)
     try have c9b4 : (9223372036854775807 < t139.size + 1 + t140.size + 1) = False := eq_false (by have h_ := of_eq_false c9b2; (try simp only [ByteArray.size_append, show (⟨#[47]⟩ : ByteArray).size = 1 from rfl] at h_); omega)
     replace H := Option.bind_eq_some_iff.mp H
     obtain ⟨t141, A100, H⟩ := H
     have A10 := Aside0.mk A100
     clear A100
     by_cases c11 : (((t139 ++ (⟨#[47]⟩ : ByteArray)) ++ t140) ++ (⟨#[47]⟩ : ByteArray)).size + t141.size ≤ 9223372036854775807
     ·rw [if_pos c11] at H
      have c11b0 := eq_true c11
      have c11b1 : decide ((((t139 ++ (⟨#[47]⟩ : ByteArray)) ++ t140) ++ (⟨#[47]⟩ : ByteArray)).size + t141.size ≤ 9223372036854775807) = true := decide_eq_true c11
      try have c11b2 : (9223372036854775807 < (((t139 ++ (⟨#[47]⟩ : ByteArray)) ++ t140) ++ (⟨#[47]⟩ : ByteArray)).size + t141.size) = False := eq_false (Nat.not_lt.2 c11)
      try have c11b4 : (9223372036854775807 < t139.size + 1 + t140.size + 1 + t141.size) = False := eq_false (by have h_ := of_eq_false c11b2; (try simp only [ByteArray.size_append, show (⟨#[47]⟩ : ByteArray).size = 1 from rfl] at h_); omega)
      have H' := Aside0.mk H
      clear H
      go_enter Tryz.func60, Tryz.ntmps60
      try go_wp2_with (((with_reducible refine gate_dst (N := 1) rfl ?_); refine box_event ?hg (N := 1) ?hd (cs := #[.int .i64 a0_0, .int .i64 a0_1, .int .i64 a0_2, .slice A0_3 l0_3.length c0_3]) (t := 62) ?hr ?_; (case hd => rfl); (case hg => rfl); (case hr => (go_simp; done)); intro gb130 hg w12 hbox hb; have BK130 := Aside0.mk (hbox); have GW130 := Aside0.mk ((by rw [hg]; exact below_size HB.out : w.heap.size ≤ gb130)); have GE130 := Aside0.mk ((by rw [hg]; exact below_size HB.out : w.heap.size ≤ gb130)); replace HB := Aside0.mk (below_step HB.out hb); clear hb hbox hg))
      replace BK130 := Aside0.mk (blk_drew BK130.out)
      replace HB := Aside0.mk (below_drew1 HB.out)
      refine start_ (n := 4) (S := fun w' => w'.cell? ⟨gb130, 0, none⟩ = some (.int .i64 a0_0) ∧ w'.cell? ⟨gb130, 1, none⟩ = some (.int .i64 a0_1) ∧ w'.cell? ⟨gb130, 2, none⟩ = some (.int .i64 a0_2) ∧ w'.cell? ⟨gb130, 3, none⟩ = some (.slice A0_3 l0_3.length c0_3)) (ds := []) (bs 4 0) (by kernel_rfl) rfl rfl ⟨(blk_cell BK130.out 0).trans rfl, (blk_cell BK130.out 1).trans rfl, (blk_cell BK130.out 2).trans rfl, (blk_cell BK130.out 3).trans rfl⟩ (fun hHeld => ?_)
      generalize w12.drew = w13 at BK130 HB hHeld ⊢
      refine take_ (i := 1) (N := some 7) (v := ?_) (a' := ?_) (bs 4 2) rfl rfl (by kernel_rfl) (fun _ _ _ h => h) (Or.inl ⟨by rfl, ?_⟩) hHeld ?_ ?_
      rotate_left
      ·rintro w' ⟨s0, s1, s2, s3⟩
       go_simp
       with_reducible rfl
      rotate_left
      ·simp only [Act.put, List.setIfInBounds_toArray, List.set_cons_zero, List.set_cons_succ, i64_w, i32_w]
       rfl
      refine one_ (i := 0) (N := some 6) (bs 4 3) rfl rfl (by kernel_rfl) (by decide) (fun K hK => ?_)
      refine goes_ Tryz.func71 (by kernel_rfl) rfl #[] (by rfl) rfl rfl (by (try simp only [List.map_toArray, List.map_cons, List.map_nil]); (done)) ?_
      with_reducible refine (note_widest.calls  t131 t132 t133 t134 t135 _ A2.out).mono ?_
      rintro e w14 ⟨v136, rfl, ho0, hb⟩
      refine ⟨_, rfl, ?_⟩
      have HO137 := Aside0.mk (Kd.R_lower ho0 (below_size HB.out))
      replace BK130 := Aside0.mk (blk_below BK130.out hb)
      replace HB := Aside0.mk (below_step HB.out hb)
      (try clear hb)
      (try clear hb2)
      (try clear hk)
      (try clear hi)
      (try clear ho0)
      obtain ⟨Ao15, co15, eo15⟩ := Kd.R_slice HO137.out
      ((subst eo15))
      refine hK.out _ _ ⟨(blk_cell BK130.out 0).trans rfl, (blk_cell BK130.out 1).trans rfl, (blk_cell BK130.out 2).trans rfl, (blk_cell BK130.out 3).trans rfl⟩ (fun hHeld => ?_)
      clear hK K
      refine norm_ (a' := ?_) ?_ ?_
      rotate_left
      ·show Act.put _ (some 6) _ = _
       simp only [Act.put, List.setIfInBounds_toArray, List.set_cons_zero, List.set_cons_succ, i64_w, i32_w]
       rfl
      refine one_ (i := 2) (N := some 8) (bs 4 7) rfl rfl (by kernel_rfl) (by decide) (fun K hK => ?_)
      refine goes_ Tryz.func65 (by kernel_rfl) rfl #[.agg #[.int .i64 t131, .int .i64 t132, .int .i64 t133, .int .i64 t134, .slice Ao15 t135.length co15], .agg #[.int .i64 a0_0, .int .i64 a0_1, .int .i64 a0_2, .slice A0_3 l0_3.length c0_3]] (by rfl) rfl rfl (by (try simp only [List.map_toArray, List.map_cons, List.map_nil]); (rfl)) ?_
      with_reducible refine (rule_Task.calls k t131 t132 t133 t134 _ _ t135 a0_0 a0_1 a0_2 _ _ l0_3 true _ ?side1 ?side2 ?side3 ?side4 A3.out).mono ?_
      (case side1 => repeat ((exact (Kd.R_reads' HO137.out).2.2)))
      (case side2 => exact (Kd.R_reads' HO137.out).2.1)
      (case side3 => repeat ((exact (Kd.C_below HR0_3.out HB.out))))
      (case side4 => exact HC0_3.out)
      rintro e w16 ⟨rfl, hb⟩
      refine ⟨_, rfl, ?_⟩
      replace HO137 := Aside0.mk (Kd.R_below HO137.out hb)
      replace BK130 := Aside0.mk (blk_below BK130.out hb)
      replace HB := Aside0.mk (below_step HB.out hb)
      (try clear hb)
      (try clear hb2)
      (try clear hk)
      (try clear hi)
      refine hK.out _ _ ⟨(blk_cell BK130.out 0).trans rfl, (blk_cell BK130.out 1).trans rfl, (blk_cell BK130.out 2).trans rfl, (blk_cell BK130.out 3).trans rfl⟩ (fun hHeld => ?_)
      clear hK K
      refine norm_ (a' := ?_) ?_ ?_
      rotate_left
      ·show Act.put _ (some 8) _ = _
       simp only [Act.put, List.setIfInBounds_toArray, List.set_cons_zero, List.set_cons_succ, i64_w, i32_w]
       rfl
      refine pure_ (i := 3) (N := some 9) (v := ?_) (a' := ?_) (bs 4 15) rfl rfl (by kernel_rfl) (fun _ _ _ h => h) (Or.inl ⟨by rfl, ?_⟩) ?_ ?_
      rotate_left
      ·intro w'
       go_simp
       with_reducible rfl
      rotate_left
      ·simp only [Act.put, List.setIfInBounds_toArray, List.set_cons_zero, List.set_cons_succ, i64_w, i32_w]
       rfl
      refine done_ (by kernel_rfl) ?_
      try go_wp2
      replace HO137 := Aside0.mk (Kd.R_drew HO137.out)
      replace BK130 := Aside0.mk (blk_drew BK130.out)
      replace HB := Aside0.mk (below_drew1 HB.out)
      refine start_ (n := 14) (S := fun w' => w'.cell? ⟨gb130, 0, none⟩ = some (.int .i64 a0_0) ∧ w'.cell? ⟨gb130, 1, none⟩ = some (.int .i64 a0_1) ∧ w'.cell? ⟨gb130, 2, none⟩ = some (.int .i64 a0_2) ∧ w'.cell? ⟨gb130, 3, none⟩ = some (.slice A0_3 l0_3.length c0_3)) (ds := []) (bs 14 0) (by kernel_rfl) rfl rfl ⟨(blk_cell BK130.out 0).trans rfl, (blk_cell BK130.out 1).trans rfl, (blk_cell BK130.out 2).trans rfl, (blk_cell BK130.out 3).trans rfl⟩ (fun hHeld => ?_); refine with_tabW note_PutTask.tab3 note_PutTask.bits3 (fun HT_ HW_ => ?_)
      generalize w16.drew = w17 at HO137 BK130 HB hHeld ⊢
      refine pureA_ (i := 0) (N := some 10) (bs 14 1) HT_ ?_
      refine pureA_ (i := 4) (N := some 14) (bs 14 17) HT_ ?_
      refine pureA_ (i := 9) (N := some 19) (bs 14 529) HT_ ?_
      refine takeA_ (i := 1) (N := some 11) (bs 14 531) HT_ HW_ hHeld ?_
      refine takeA_ (i := 5) (N := some 15) (bs 14 563) HT_ HW_ hHeld ?_
      refine takeA_ (i := 10) (N := some 20) (bs 14 1587) HT_ HW_ hHeld ?_
      refine one_ (i := 2) (N := some 12) (bs 14 1591) rfl rfl (one_of HT_.out (by kernel_rfl)) (by decide) (fun K hK => ?_)
      refine goes_ Tryz.func69 (by kernel_rfl) rfl #[.int .i64 a0_0] (by rfl) rfl rfl (by (try simp only [List.map_toArray, List.map_cons, List.map_nil]); (rfl)) ?_
      with_reducible refine (note_num.calls a0_0 t139 _ A5.out).mono ?_
      rintro e w18 ⟨rfl, hb⟩
      refine ⟨_, rfl, ?_⟩
      replace HO137 := Aside0.mk (Kd.R_below HO137.out hb)
      replace BK130 := Aside0.mk (blk_below BK130.out hb)
      replace HB := Aside0.mk (below_step HB.out hb)
      (try clear hb)
      (try clear hb2)
      (try clear hk)
      (try clear hi)
      refine hK.out _ _ ⟨(blk_cell BK130.out 0).trans rfl, (blk_cell BK130.out 1).trans rfl, (blk_cell BK130.out 2).trans rfl, (blk_cell BK130.out 3).trans rfl⟩ (fun hHeld => ?_)
      clear hK K
      refine norm_ (a' := ?_) ?_ ?_
      rotate_left
      ·show Act.put _ (some 12) _ = _
       simp only [Act.put, List.setIfInBounds_toArray, List.set_cons_zero, List.set_cons_succ, i64_w, i32_w]
       rfl
      refine pureA_ (i := 3) (N := some 13) (bs 14 1599) HT_ ?_
      refine one_ (i := 6) (N := some 16) (bs 14 1663) rfl rfl (one_of HT_.out (by kernel_rfl)) (by decide) (fun K hK => ?_)
      refine goes_ Tryz.func69 (by kernel_rfl) rfl #[.int .i64 a0_1] (by rfl) rfl rfl (by (try simp only [List.map_toArray, List.map_cons, List.map_nil]); (rfl)) ?_
      with_reducible refine (note_num.calls a0_1 t140 _ A7.out).mono ?_
      rintro e w19 ⟨rfl, hb⟩
      refine ⟨_, rfl, ?_⟩
      replace HO137 := Aside0.mk (Kd.R_below HO137.out hb)
      replace BK130 := Aside0.mk (blk_below BK130.out hb)
      replace HB := Aside0.mk (below_step HB.out hb)
      (try clear hb)
      (try clear hb2)
      (try clear hk)
      (try clear hi)
      refine hK.out _ _ ⟨(blk_cell BK130.out 0).trans rfl, (blk_cell BK130.out 1).trans rfl, (blk_cell BK130.out 2).trans rfl, (blk_cell BK130.out 3).trans rfl⟩ (fun hHeld => ?_)
      clear hK K
      refine norm_ (a' := ?_) ?_ ?_
      rotate_left
      ·show Act.put _ (some 16) _ = _
       simp only [Act.put, List.setIfInBounds_toArray, List.set_cons_zero, List.set_cons_succ, i64_w, i32_w]
       rfl
      refine pureA_ (i := 7) (N := some 17) (bs 14 1791) HT_ ?_
      refine pureA_ (i := 8) (N := some 18) (bs 14 2047) HT_ ?_
      refine one_ (i := 11) (N := some 21) (bs 14 4095) rfl rfl (one_of HT_.out (by kernel_rfl)) (by decide) (fun K hK => ?_)
      refine goes_ Tryz.func69 (by kernel_rfl) rfl #[.int .i64 a0_2] (by rfl) rfl rfl (by (try simp only [List.map_toArray, List.map_cons, List.map_nil]); (rfl)) ?_
      with_reducible refine (note_num.calls a0_2 t141 _ A10.out).mono ?_
      rintro e w20 ⟨rfl, hb⟩
      refine ⟨_, rfl, ?_⟩
      replace HO137 := Aside0.mk (Kd.R_below HO137.out hb)
      replace BK130 := Aside0.mk (blk_below BK130.out hb)
      replace HB := Aside0.mk (below_step HB.out hb)
      (try clear hb)
      (try clear hb2)
      (try clear hk)
      (try clear hi)
      refine hK.out _ _ ⟨(blk_cell BK130.out 0).trans rfl, (blk_cell BK130.out 1).trans rfl, (blk_cell BK130.out 2).trans rfl, (blk_cell BK130.out 3).trans rfl⟩ (fun hHeld => ?_)
      clear hK K
      refine norm_ (a' := ?_) ?_ ?_
      rotate_left
      ·show Act.put _ (some 21) _ = _
       simp only [Act.put, List.setIfInBounds_toArray, List.set_cons_zero, List.set_cons_succ, i64_w, i32_w]
       rfl
      refine pureA_ (i := 12) (N := some 22) (bs 14 8191) HT_ ?_
      refine pureA_ (i := 13) (N := some 3) (bs 14 16383) HT_ ?_
      refine done_ (done_of HT_.out (by kernel_rfl)) ?_
      have hcz21_0 : w20.cell? ⟨gb130, 0, none⟩ = some (.int .i64 a0_0) := (blk_cell BK130.out 0).trans rfl
      have hcz21_1 : w20.cell? ⟨gb130, 1, none⟩ = some (.int .i64 a0_1) := (blk_cell BK130.out 1).trans rfl
      have hcz21_2 : w20.cell? ⟨gb130, 2, none⟩ = some (.int .i64 a0_2) := (blk_cell BK130.out 2).trans rfl
      have hcz21_3 : w20.cell? ⟨gb130, 3, none⟩ = some (.slice A0_3 l0_3.length c0_3) := (blk_cell BK130.out 3).trans rfl
      have hfz21_0 := blk_frozen BK130.out 0
      have hfz21_1 := blk_frozen BK130.out 1
      have hfz21_2 := blk_frozen BK130.out 2
      have hfz21_3 := blk_frozen BK130.out 3
      try go_wp2
      go_loopg [3, 26] k (fun kq v3 v26 w' => ∃ (x3_1 : ByteArray) (x26_1 : Int), v3 = .string x3_1 ∧ v26 = .int .i64 x26_1 ∧ Aside0 (note_PutTask.l0 kq x3_1 l0_3 (l0_3.length : Int) x26_1 = some r) ∧ Aside0 (kq ≤ k) ∧ Aside0 (w'.heap[gb130]? = some (.cells #[.int .i64 a0_0, .int .i64 a0_1, .int .i64 a0_2, (.slice A0_3 l0_3.length c0_3)] 62 (0, 0))) ∧ Aside0 (Below w.heap.size w w'))
      case atStart => exact ⟨((((t139 ++ (⟨#[47]⟩ : ByteArray)) ++ t140) ++ (⟨#[47]⟩ : ByteArray)) ++ t141), (0), (by (rfl)), (by (rfl)), H', ⟨Nat.le_refl _⟩, ⟨BK130.out⟩, ⟨HB.out⟩⟩
      case round =>
       clear H'
       try clear c6
       try clear c6b0
       try clear c6b1
       try clear c6b2
       try clear c8
       try clear c8b0
       try clear c8b1
       try clear c8b2
       try clear c9
       try clear c9b0
       try clear c9b1
       try clear c9b2
       try clear c11
       try clear c11b0
       try clear c11b1
       try clear c11b2
       try clear hcz21_0
       try clear hcz21_1
       try clear hcz21_2
       try clear hcz21_3
       try clear hfz21_0
       try clear hfz21_1
       try clear hfz21_2
       try clear hfz21_3
       obtain ⟨x3_1, x26_1, rfl, rfl, HA, HK1, BK130, HB⟩ := hrel
       cases gk with
       | zero => exact absurd HA.out (by simp [note_PutTask.l0])
       | succ k1 =>
        have H := HA.out
        clear HA
        simp only [note_PutTask.l0] at H
        by_cases c22 : x26_1 < (l0_3.length : Int)
        ·rw [if_pos c22] at H
         have c22b0 : decide (x26_1 < (l0_3.length : Int)) = true := decide_eq_true c22
         clear c22
         by_cases c23 : 0 ≤ x26_1
         ·rw [if_pos c23] at H
          have c23b0 : decide (0 ≤ x26_1) = true := decide_eq_true c23
          clear c23
          by_cases c24 : x26_1 < (l0_3.length : Int)
          ·rw [if_pos c24] at H
           have c24b0 : decide (x26_1 < (l0_3.length : Int)) = true := decide_eq_true c24
           clear c24
           replace H := Option.bind_eq_some_iff.mp H
           obtain ⟨t144, A250, H⟩ := H
           have A25 := Aside0.mk A250
           clear A250
           by_cases c26 : 1 + t144.size ≤ 9223372036854775807
           ·rw [if_pos c26] at H
            have c26b0 := eq_true c26
            have c26b1 : decide (1 + t144.size ≤ 9223372036854775807) = true := decide_eq_true c26
            try have c26b2 : (9223372036854775807 < 1 + t144.size) = False := eq_false (Nat.not_lt.2 c26)
            by_cases c27 : ((⟨#[32]⟩ : ByteArray) ++ t144).size + 1 ≤ 9223372036854775807
            ·rw [if_pos c27] at H
             have c27b0 := eq_true c27
             have c27b1 : decide (((⟨#[32]⟩ : ByteArray) ++ t144).size + 1 ≤ 9223372036854775807) = true := decide_eq_true c27
             try have c27b2 : (9223372036854775807 < ((⟨#[32]⟩ : ByteArray) ++ t144).size + 1) = False := eq_false (Nat.not_lt.2 c27)
             try have c27b4 : (9223372036854775807 < 1 + t144.size + 1) = False := eq_false (by have h_ := of_eq_false c27b2; (try simp only [ByteArray.size_append, show (⟨#[32]⟩ : ByteArray).size = 1 from rfl] at h_); omega)
             replace H := Option.bind_eq_some_iff.mp H
             obtain ⟨t145, A280, H⟩ := H
             have A28 := Aside0.mk A280
             clear A280
             by_cases c29 : (((⟨#[32]⟩ : ByteArray) ++ t144) ++ (⟨#[64]⟩ : ByteArray)).size + t145.size ≤ 9223372036854775807
             ·rw [if_pos c29] at H
              have c29b0 := eq_true c29
              have c29b1 : decide ((((⟨#[32]⟩ : ByteArray) ++ t144) ++ (⟨#[64]⟩ : ByteArray)).size + t145.size ≤ 9223372036854775807) = true := decide_eq_true c29
              try have c29b2 : (9223372036854775807 < (((⟨#[32]⟩ : ByteArray) ++ t144) ++ (⟨#[64]⟩ : ByteArray)).size + t145.size) = False := eq_false (Nat.not_lt.2 c29)
              try have c29b4 : (9223372036854775807 < 1 + t144.size + 1 + t145.size) = False := eq_false (by have h_ := of_eq_false c29b2; (try simp only [ByteArray.size_append, show (⟨#[32]⟩ : ByteArray).size = 1 from rfl, show (⟨#[64]⟩ : ByteArray).size = 1 from rfl] at h_); omega)
              by_cases c30 : ((((⟨#[32]⟩ : ByteArray) ++ t144) ++ (⟨#[64]⟩ : ByteArray)) ++ t145).size + 1 ≤ 9223372036854775807
              ·rw [if_pos c30] at H
               have c30b0 := eq_true c30
               have c30b1 : decide (((((⟨#[32]⟩ : ByteArray) ++ t144) ++ (⟨#[64]⟩ : ByteArray)) ++ t145).size + 1 ≤ 9223372036854775807) = true := decide_eq_true c30
               try have c30b2 : (9223372036854775807 < ((((⟨#[32]⟩ : ByteArray) ++ t144) ++ (⟨#[64]⟩ : ByteArray)) ++ t145).size + 1) = False := eq_false (Nat.not_lt.2 c30)
               try have c30b4 : (9223372036854775807 < 1 + t144.size + 1 + t145.size + 1) = False := eq_false (by have h_ := of_eq_false c30b2; (try simp only [ByteArray.size_append, show (⟨#[32]⟩ : ByteArray).size = 1 from rfl, show (⟨#[64]⟩ : ByteArray).size = 1 from rfl] at h_); omega)
               replace H := Option.bind_eq_some_iff.mp H
               obtain ⟨t146, A310, H⟩ := H
               have A31 := Aside0.mk A310
               clear A310
               by_cases c32 : (((((⟨#[32]⟩ : ByteArray) ++ t144) ++ (⟨#[64]⟩ : ByteArray)) ++ t145) ++ (⟨#[43]⟩ : ByteArray)).size + t146.size ≤ 9223372036854775807
               ·rw [if_pos c32] at H
                have c32b0 := eq_true c32
                have c32b1 : decide ((((((⟨#[32]⟩ : ByteArray) ++ t144) ++ (⟨#[64]⟩ : ByteArray)) ++ t145) ++ (⟨#[43]⟩ : ByteArray)).size + t146.size ≤ 9223372036854775807) = true := decide_eq_true c32
                try have c32b2 : (9223372036854775807 < (((((⟨#[32]⟩ : ByteArray) ++ t144) ++ (⟨#[64]⟩ : ByteArray)) ++ t145) ++ (⟨#[43]⟩ : ByteArray)).size + t146.size) = False := eq_false (Nat.not_lt.2 c32)
                try have c32b4 : (9223372036854775807 < 1 + t144.size + 1 + t145.size + 1 + t146.size) = False := eq_false (by have h_ := of_eq_false c32b2; (try simp only [ByteArray.size_append, show (⟨#[32]⟩ : ByteArray).size = 1 from rfl, show (⟨#[43]⟩ : ByteArray).size = 1 from rfl, show (⟨#[64]⟩ : ByteArray).size = 1 from rfl] at h_); omega)
                by_cases c33 : x3_1.size + ((((((⟨#[32]⟩ : ByteArray) ++ t144) ++ (⟨#[64]⟩ : ByteArray)) ++ t145) ++ (⟨#[43]⟩ : ByteArray)) ++ t146).size ≤ 9223372036854775807
                ·rw [if_pos c33] at H
                 have c33b0 := eq_true c33
                 have c33b1 : decide (x3_1.size + ((((((⟨#[32]⟩ : ByteArray) ++ t144) ++ (⟨#[64]⟩ : ByteArray)) ++ t145) ++ (⟨#[43]⟩ : ByteArray)) ++ t146).size ≤ 9223372036854775807) = true := decide_eq_true c33
                 try have c33b2 : (9223372036854775807 < x3_1.size + ((((((⟨#[32]⟩ : ByteArray) ++ t144) ++ (⟨#[64]⟩ : ByteArray)) ++ t145) ++ (⟨#[43]⟩ : ByteArray)) ++ t146).size) = False := eq_false (Nat.not_lt.2 c33)
                 try have c33b4 : (9223372036854775807 < x3_1.size + (1 + t144.size + 1 + t145.size + 1 + t146.size)) = False := eq_false (by have h_ := of_eq_false c33b2; (try simp only [ByteArray.size_append, show (⟨#[32]⟩ : ByteArray).size = 1 from rfl, show (⟨#[43]⟩ : ByteArray).size = 1 from rfl, show (⟨#[64]⟩ : ByteArray).size = 1 from rfl] at h_); omega)
                 have H' := Aside0.mk H
                 clear H
                 have p142 : 0 ≤ (x26_1 : Int) := of_decide_eq_true (by (with_reducible assumption))
                 have q142 : x26_1 < (l0_3.length : Int) := of_decide_eq_true (by (with_reducible assumption))
                 obtain ⟨ad142, e142, hx142_0, hx142_1, hx142_2⟩ := at_T59 HR0_3.out x26_1 p142 q142
                 cases e142
                 replace hx142_0 := (HB.out.cell (World.block_lt_of_cell? w _ hx142_0)).trans hx142_0
                 replace hx142_1 := (HB.out.cell (World.block_lt_of_cell? w _ hx142_1)).trans hx142_1
                 replace hx142_2 := (HB.out.cell (World.block_lt_of_cell? w _ hx142_2)).trans hx142_2
                 replace p142 := eq_true p142
                 replace q142 := eq_true q142
                 try go_wp2_with (((with_reducible refine gate_dst (N := 5) rfl ?_); refine box_event ?hg (N := 5) ?hd (cs := #[.int .i64 0, .int .i64 0, .int .i64 0]) (t := 59) ?hr ?_; (case hd => rfl); (case hg => rfl); (case hr => (go_simp; done)); intro gb143 hg w34 hbox hb; have BK143 := Aside0.mk (hbox); have GW143 := Aside0.mk ((by rw [hg]; exact below_size HB.out : w.heap.size ≤ gb143)); have GE143 := Aside0.mk ((by rw [hg]; exact below_size HB.out : w.heap.size ≤ gb143)); have NB130_143 := Aside0.mk ((by rw [hg]; exact Nat.ne_of_lt (blk_lt BK130.out) : gb130 ≠ gb143)); have NB143_130 := Aside0.mk ((by rw [hg]; exact Nat.ne_of_gt (blk_lt BK130.out) : gb143 ≠ gb130)); replace BK130 := Aside0.mk (blk_below BK130.out hb); replace HB := Aside0.mk (below_step HB.out hb); clear hb hbox hg; have hnb35 := NB143_130.out; have hnc35 := NB130_143.out; have hcz36_0 : w34.cell? ⟨gb143, 0, none⟩ = some (.int .i64 0) := (blk_cell BK143.out 0).trans rfl; have hcz36_1 : w34.cell? ⟨gb143, 1, none⟩ = some (.int .i64 0) := (blk_cell BK143.out 1).trans rfl; have hcz36_2 : w34.cell? ⟨gb143, 2, none⟩ = some (.int .i64 0) := (blk_cell BK143.out 2).trans rfl; have hfz36_0 := blk_frozen BK143.out 0; have hfz36_1 := blk_frozen BK143.out 1; have hfz36_2 := blk_frozen BK143.out 2))
                 have n0_ : Aside0 ((((w34.setCell ⟨gb143, 0, none⟩ (.int .i64 ((rd_T59 l0_3 x26_1).f0))).setCell ⟨gb143, 1, none⟩ (.int .i64 ((rd_T59 l0_3 x26_1).f1))).setCell ⟨gb143, 2, none⟩ (.int .i64 ((rd_T59 l0_3 x26_1).f2))).heap[gb130]? = some (.cells #[.int .i64 a0_0, .int .i64 a0_1, .int .i64 a0_2, .slice (some ad142) l0_3.length c0_3] 62 (0, 0))) := ⟨by refine blk_far ?_ NB130_143.out _; refine blk_far ?_ NB130_143.out _; refine blk_far ?_ NB130_143.out _; exact BK130.out⟩
                 have n1_ : Aside0 ((((w34.setCell ⟨gb143, 0, none⟩ (.int .i64 ((rd_T59 l0_3 x26_1).f0))).setCell ⟨gb143, 1, none⟩ (.int .i64 ((rd_T59 l0_3 x26_1).f1))).setCell ⟨gb143, 2, none⟩ (.int .i64 ((rd_T59 l0_3 x26_1).f2))).heap[gb143]? = some (.cells #[.int .i64 ((rd_T59 l0_3 x26_1).f0), .int .i64 ((rd_T59 l0_3 x26_1).f1), .int .i64 ((rd_T59 l0_3 x26_1).f2)] 59 (0, 0))) := ⟨by refine blk_put (cs := #[.int .i64 ((rd_T59 l0_3 x26_1).f0), .int .i64 ((rd_T59 l0_3 x26_1).f1), .int .i64 0]) ?_ 2 _ rfl; refine blk_put (cs := #[.int .i64 ((rd_T59 l0_3 x26_1).f0), .int .i64 0, .int .i64 0]) ?_ 1 _ rfl; refine blk_put (cs := #[.int .i64 0, .int .i64 0, .int .i64 0]) ?_ 0 _ rfl; exact BK143.out⟩
                 have n2_ : Aside0 (Below w.heap.size w (((w34.setCell ⟨gb143, 0, none⟩ (.int .i64 ((rd_T59 l0_3 x26_1).f0))).setCell ⟨gb143, 1, none⟩ (.int .i64 ((rd_T59 l0_3 x26_1).f1))).setCell ⟨gb143, 2, none⟩ (.int .i64 ((rd_T59 l0_3 x26_1).f2)))) := ⟨by repeat ((with_reducible first | exact HB.out | refine below_set ?_ GE143.out))⟩
                 (try clear BK130)
                 (try clear BK143)
                 (try clear HB)
                 generalize (((w34.setCell ⟨gb143, 0, none⟩ (.int .i64 ((rd_T59 l0_3 x26_1).f0))).setCell ⟨gb143, 1, none⟩ (.int .i64 ((rd_T59 l0_3 x26_1).f1))).setCell ⟨gb143, 2, none⟩ (.int .i64 ((rd_T59 l0_3 x26_1).f2))) = w37 at n0_ n1_ n2_ ⊢
                 have BK130 := n0_
                 have BK143 := n1_
                 have HB := n2_
                 clear n0_ n1_ n2_
                 replace BK130 := Aside0.mk (blk_drew BK130.out)
                 replace BK143 := Aside0.mk (blk_drew BK143.out)
                 replace HB := Aside0.mk (below_drew1 HB.out)
                 refine start_ (n := 17) (S := fun w' => w'.cell? ⟨gb143, 0, none⟩ = some (.int .i64 ((rd_T59 l0_3 x26_1).f0)) ∧ w'.cell? ⟨gb143, 1, none⟩ = some (.int .i64 ((rd_T59 l0_3 x26_1).f1)) ∧ w'.cell? ⟨gb143, 2, none⟩ = some (.int .i64 ((rd_T59 l0_3 x26_1).f2))) (ds := []) (bs 17 0) (by kernel_rfl) rfl rfl ⟨(blk_cell BK143.out 0).trans rfl, (blk_cell BK143.out 1).trans rfl, (blk_cell BK143.out 2).trans rfl⟩ (fun hHeld => ?_); refine with_tabW note_PutTask.tab7 note_PutTask.bits7 (fun HT_ HW_ => ?_)
                 generalize w37.drew = w38 at BK130 BK143 HB hHeld ⊢
                 refine pureA_ (i := 0) (N := some 30) (bs 17 1) HT_ ?_
                 refine pureA_ (i := 1) (N := some 31) (bs 17 3) HT_ ?_
                 refine pureA_ (i := 6) (N := some 36) (bs 17 67) HT_ ?_
                 refine pureA_ (i := 11) (N := some 41) (bs 17 2115) HT_ ?_
                 refine takeA_ (i := 2) (N := some 32) (bs 17 2119) HT_ HW_ hHeld ?_
                 refine takeA_ (i := 7) (N := some 37) (bs 17 2247) HT_ HW_ hHeld ?_
                 refine takeA_ (i := 12) (N := some 42) (bs 17 6343) HT_ HW_ hHeld ?_
                 refine one_ (i := 3) (N := some 33) (bs 17 6351) rfl rfl (one_of HT_.out (by kernel_rfl)) (by decide) (fun K hK => ?_)
                 refine goes_ Tryz.func69 (by kernel_rfl) rfl #[.int .i64 ((rd_T59 l0_3 x26_1).f0)] (by rfl) rfl rfl (by (try simp only [List.map_toArray, List.map_cons, List.map_nil]); (rfl)) ?_
                 with_reducible refine (note_num.calls ((rd_T59 l0_3 x26_1).f0) t144 _ A25.out).mono ?_
                 rintro e w39 ⟨rfl, hb⟩
                 refine ⟨_, rfl, ?_⟩
                 replace BK130 := Aside0.mk (blk_below BK130.out hb)
                 replace BK143 := Aside0.mk (blk_below BK143.out hb)
                 replace HB := Aside0.mk (below_step HB.out hb)
                 (try clear hb)
                 (try clear hb2)
                 (try clear hk)
                 (try clear hi)
                 refine hK.out _ _ ⟨(blk_cell BK143.out 0).trans rfl, (blk_cell BK143.out 1).trans rfl, (blk_cell BK143.out 2).trans rfl⟩ (fun hHeld => ?_)
                 clear hK K
                 refine norm_ (a' := ?_) ?_ ?_
                 rotate_left
                 ·show Act.put _ (some 33) _ = _
                  simp only [Act.put, List.setIfInBounds_toArray, List.set_cons_zero, List.set_cons_succ, i64_w, i32_w]
                  rfl
                 refine pureA_ (i := 4) (N := some 34) (bs 17 6367) HT_ ?_
                 refine pureA_ (i := 5) (N := some 35) (bs 17 6399) HT_ ?_
                 refine one_ (i := 8) (N := some 38) (bs 17 6655) rfl rfl (one_of HT_.out (by kernel_rfl)) (by decide) (fun K hK => ?_)
                 refine goes_ Tryz.func69 (by kernel_rfl) rfl #[.int .i64 ((rd_T59 l0_3 x26_1).f1)] (by rfl) rfl rfl (by (try simp only [List.map_toArray, List.map_cons, List.map_nil]); (rfl)) ?_
                 with_reducible refine (note_num.calls ((rd_T59 l0_3 x26_1).f1) t145 _ A28.out).mono ?_
                 rintro e w40 ⟨rfl, hb⟩
                 refine ⟨_, rfl, ?_⟩
                 replace BK130 := Aside0.mk (blk_below BK130.out hb)
                 replace BK143 := Aside0.mk (blk_below BK143.out hb)
                 replace HB := Aside0.mk (below_step HB.out hb)
                 (try clear hb)
                 (try clear hb2)
                 (try clear hk)
                 (try clear hi)
                 refine hK.out _ _ ⟨(blk_cell BK143.out 0).trans rfl, (blk_cell BK143.out 1).trans rfl, (blk_cell BK143.out 2).trans rfl⟩ (fun hHeld => ?_)
                 clear hK K
                 refine norm_ (a' := ?_) ?_ ?_
                 rotate_left
                 ·show Act.put _ (some 38) _ = _
                  simp only [Act.put, List.setIfInBounds_toArray, List.set_cons_zero, List.set_cons_succ, i64_w, i32_w]
                  rfl
                 refine pureA_ (i := 9) (N := some 39) (bs 17 7167) HT_ ?_
                 refine pureA_ (i := 10) (N := some 40) (bs 17 8191) HT_ ?_
                 refine one_ (i := 13) (N := some 43) (bs 17 16383) rfl rfl (one_of HT_.out (by kernel_rfl)) (by decide) (fun K hK => ?_)
                 refine goes_ Tryz.func69 (by kernel_rfl) rfl #[.int .i64 ((rd_T59 l0_3 x26_1).f2)] (by rfl) rfl rfl (by (try simp only [List.map_toArray, List.map_cons, List.map_nil]); (rfl)) ?_
                 with_reducible refine (note_num.calls ((rd_T59 l0_3 x26_1).f2) t146 _ A31.out).mono ?_
                 rintro e w41 ⟨rfl, hb⟩
                 refine ⟨_, rfl, ?_⟩
                 replace BK130 := Aside0.mk (blk_below BK130.out hb)
                 replace BK143 := Aside0.mk (blk_below BK143.out hb)
                 replace HB := Aside0.mk (below_step HB.out hb)
                 (try clear hb)
                 (try clear hb2)
                 (try clear hk)
                 (try clear hi)
                 refine hK.out _ _ ⟨(blk_cell BK143.out 0).trans rfl, (blk_cell BK143.out 1).trans rfl, (blk_cell BK143.out 2).trans rfl⟩ (fun hHeld => ?_)
                 clear hK K
                 refine norm_ (a' := ?_) ?_ ?_
                 rotate_left
                 ·show Act.put _ (some 43) _ = _
                  simp only [Act.put, List.setIfInBounds_toArray, List.set_cons_zero, List.set_cons_succ, i64_w, i32_w]
                  rfl
                 refine pureA_ (i := 14) (N := some 44) (bs 17 32767) HT_ ?_
                 refine pureA_ (i := 15) (N := some 45) (bs 17 65535) HT_ ?_
                 refine pureA_ (i := 16) (N := some 3) (bs 17 131071) HT_ ?_
                 refine done_ (done_of HT_.out (by kernel_rfl)) ?_
                 try go_wp2
                 go_roundg k1
                 case measure => have := HK1.out; omega
                 case rel => exact ⟨(x3_1 ++ ((((((⟨#[32]⟩ : ByteArray) ++ t144) ++ (⟨#[64]⟩ : ByteArray)) ++ t145) ++ (⟨#[43]⟩ : ByteArray)) ++ t146)), (wrap64 (x26_1 + 1)), (by (rfl)), (by (rfl)), H', ⟨by have := HK1.out; omega⟩, ⟨BK130.out⟩, ⟨HB.out⟩⟩
                ·rw [if_neg c33] at H
                 exact absurd H (by simp)
               ·rw [if_neg c32] at H
                exact absurd H (by simp)
              ·rw [if_neg c30] at H
               exact absurd H (by simp)
             ·rw [if_neg c29] at H
              exact absurd H (by simp)
            ·rw [if_neg c27] at H
             exact absurd H (by simp)
           ·rw [if_neg c26] at H
            exact absurd H (by simp)
          ·rw [if_neg c24] at H
           exact absurd H (by simp)
         ·rw [if_neg c23] at H
          exact absurd H (by simp)
        ·rw [if_neg c22] at H
         have c22b0 : decide (x26_1 < (l0_3.length : Int)) = false := decide_eq_false c22
         clear c22
         obtain rfl := Option.some.inj H
         go_wp2
         go_ret
         exact ⟨by (rfl), by repeat ((with_reducible (exact HB.out)))⟩
     ·rw [if_neg c11] at H
      exact absurd H (by simp)
    ·rw [if_neg c9] at H
     exact absurd H (by simp)
   ·rw [if_neg c8] at H
    exact absurd H (by simp)
  ·rw [if_neg c6] at H
   exact absurd H (by simp)
 ·replace c4 := Bool.eq_false_iff.mpr c4
  subst c4
  have H1 : (some (⟨#[]⟩ : ByteArray)) = some r := by rw [if_neg (show ¬ (false = true) by decide)] at H; exact H
  clear H
  have H := H1
  clear H1
  obtain rfl := Option.some.inj H
  go_enter Tryz.func60, Tryz.ntmps60
  try go_wp2_with (((with_reducible refine gate_dst (N := 1) rfl ?_); refine box_event ?hg (N := 1) ?hd (cs := #[.int .i64 a0_0, .int .i64 a0_1, .int .i64 a0_2, .slice A0_3 l0_3.length c0_3]) (t := 62) ?hr ?_; (case hd => rfl); (case hg => rfl); (case hr => (go_simp; done)); intro gb130 hg w42 hbox hb; have BK130 := Aside0.mk (hbox); have GW130 := Aside0.mk ((by rw [hg]; exact below_size HB.out : w.heap.size ≤ gb130)); have GE130 := Aside0.mk ((by rw [hg]; exact below_size HB.out : w.heap.size ≤ gb130)); replace HB := Aside0.mk (below_step HB.out hb); clear hb hbox hg))
  replace BK130 := Aside0.mk (blk_drew BK130.out)
  replace HB := Aside0.mk (below_drew1 HB.out)
  refine start_ (n := 4) (S := fun w' => w'.cell? ⟨gb130, 0, none⟩ = some (.int .i64 a0_0) ∧ w'.cell? ⟨gb130, 1, none⟩ = some (.int .i64 a0_1) ∧ w'.cell? ⟨gb130, 2, none⟩ = some (.int .i64 a0_2) ∧ w'.cell? ⟨gb130, 3, none⟩ = some (.slice A0_3 l0_3.length c0_3)) (ds := []) (bs 4 0) (by kernel_rfl) rfl rfl ⟨(blk_cell BK130.out 0).trans rfl, (blk_cell BK130.out 1).trans rfl, (blk_cell BK130.out 2).trans rfl, (blk_cell BK130.out 3).trans rfl⟩ (fun hHeld => ?_)
  generalize w42.drew = w43 at BK130 HB hHeld ⊢
  refine take_ (i := 1) (N := some 7) (v := ?_) (a' := ?_) (bs 4 2) rfl rfl (by kernel_rfl) (fun _ _ _ h => h) (Or.inl ⟨by rfl, ?_⟩) hHeld ?_ ?_
  rotate_left
  ·rintro w' ⟨s0, s1, s2, s3⟩
   go_simp
   with_reducible rfl
  rotate_left
  ·simp only [Act.put, List.setIfInBounds_toArray, List.set_cons_zero, List.set_cons_succ, i64_w, i32_w]
   rfl
  refine one_ (i := 0) (N := some 6) (bs 4 3) rfl rfl (by kernel_rfl) (by decide) (fun K hK => ?_)
  refine goes_ Tryz.func71 (by kernel_rfl) rfl #[] (by rfl) rfl rfl (by (try simp only [List.map_toArray, List.map_cons, List.map_nil]); (done)) ?_
  with_reducible refine (note_widest.calls  t131 t132 t133 t134 t135 _ A2.out).mono ?_
  rintro e w44 ⟨v136, rfl, ho0, hb⟩
  refine ⟨_, rfl, ?_⟩
  have HO137 := Aside0.mk (Kd.R_lower ho0 (below_size HB.out))
  replace BK130 := Aside0.mk (blk_below BK130.out hb)
  replace HB := Aside0.mk (below_step HB.out hb)
  (try clear hb)
  (try clear hb2)
  (try clear hk)
  (try clear hi)
  (try clear ho0)
  obtain ⟨Ao45, co45, eo45⟩ := Kd.R_slice HO137.out
  ((subst eo45))
  refine hK.out _ _ ⟨(blk_cell BK130.out 0).trans rfl, (blk_cell BK130.out 1).trans rfl, (blk_cell BK130.out 2).trans rfl, (blk_cell BK130.out 3).trans rfl⟩ (fun hHeld => ?_)
  clear hK K
  refine norm_ (a' := ?_) ?_ ?_
  rotate_left
  ·show Act.put _ (some 6) _ = _
   simp only [Act.put, List.setIfInBounds_toArray, List.set_cons_zero, List.set_cons_succ, i64_w, i32_w]
   rfl
  refine one_ (i := 2) (N := some 8) (bs 4 7) rfl rfl (by kernel_rfl) (by decide) (fun K hK => ?_)
  refine goes_ Tryz.func65 (by kernel_rfl) rfl #[.agg #[.int .i64 t131, .int .i64 t132, .int .i64 t133, .int .i64 t134, .slice Ao45 t135.length co45], .agg #[.int .i64 a0_0, .int .i64 a0_1, .int .i64 a0_2, .slice A0_3 l0_3.length c0_3]] (by rfl) rfl rfl (by (try simp only [List.map_toArray, List.map_cons, List.map_nil]); (rfl)) ?_
  with_reducible refine (rule_Task.calls k t131 t132 t133 t134 _ _ t135 a0_0 a0_1 a0_2 _ _ l0_3 false _ ?side1 ?side2 ?side3 ?side4 A3.out).mono ?_
  (case side1 => repeat ((exact (Kd.R_reads' HO137.out).2.2)))
  (case side2 => exact (Kd.R_reads' HO137.out).2.1)
  (case side3 => repeat ((exact (Kd.C_below HR0_3.out HB.out))))
  (case side4 => exact HC0_3.out)
  rintro e w46 ⟨rfl, hb⟩
  refine ⟨_, rfl, ?_⟩
  replace HO137 := Aside0.mk (Kd.R_below HO137.out hb)
  replace BK130 := Aside0.mk (blk_below BK130.out hb)
  replace HB := Aside0.mk (below_step HB.out hb)
  (try clear hb)
  (try clear hb2)
  (try clear hk)
  (try clear hi)
  refine hK.out _ _ ⟨(blk_cell BK130.out 0).trans rfl, (blk_cell BK130.out 1).trans rfl, (blk_cell BK130.out 2).trans rfl, (blk_cell BK130.out 3).trans rfl⟩ (fun hHeld => ?_)
  clear hK K
  refine norm_ (a' := ?_) ?_ ?_
  rotate_left
  ·show Act.put _ (some 8) _ = _
   simp only [Act.put, List.setIfInBounds_toArray, List.set_cons_zero, List.set_cons_succ, i64_w, i32_w]
   rfl
  refine pure_ (i := 3) (N := some 9) (v := ?_) (a' := ?_) (bs 4 15) rfl rfl (by kernel_rfl) (fun _ _ _ h => h) (Or.inl ⟨by rfl, ?_⟩) ?_ ?_
  rotate_left
  ·intro w'
   go_simp
   with_reducible rfl
  rotate_left
  ·simp only [Act.put, List.setIfInBounds_toArray, List.set_cons_zero, List.set_cons_succ, i64_w, i32_w]
   rfl
  refine done_ (by kernel_rfl) ?_
  try go_wp2
  go_ret
  exact ⟨by (rfl), by repeat ((with_reducible (exact HB.out)))⟩

end Go.Proofs.YtddepomgaeadpaaGreatDoor.PBeg
