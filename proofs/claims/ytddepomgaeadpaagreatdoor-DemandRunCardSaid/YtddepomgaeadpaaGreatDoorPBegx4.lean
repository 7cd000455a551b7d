-- Written by a program of this session (wip/pp.py) over the kit's print, with hand-proved contracts beside it.
import Derived.Test.YtddepomgaeadpaaGreatDoorWz
import Derived.Test.YtddepomgaeadpaaGreatDoorPBegx0
import Derived.Test.YtddepomgaeadpaaGreatDoorPBegx3
namespace Go.Proofs.YtddepomgaeadpaaGreatDoor.PBeg
open Go.Shelf Go.Lib Go.RowKit Go.Proofs.YtddepomgaeadpaaGreatDoorW.PrintWords Go.Proofs.YtddepomgaeadpaaGreatDoorW.PrintLast Go.Proofs.YtddepomgaeadpaaGreatDoorW.PrintMore
attribute [local go_sem] max2_int min2_int max_two min_two max_three min_three max_four min_four   -- for this text's walks alone
set_option linter.unusedVariables false
set_option linter.unusedSimpArgs false

/-! ### note_PutConfig: function 59 -/
mutual
def note_PutConfig.j0 : Nat → List ByteArray → Int → Int → Int → Int → List Int → Option (ByteArray)
 | 0, _, _, _, _, _, _ => none
 | k + 1, x3, x104000, x104001, x104002, x104003, x104004 => note_PutConfig.l0 k x3 x104004 (x104004.length : Int) 0
def note_PutConfig.l0 : Nat → List ByteArray → List Int → Int → Int → Option (ByteArray)
 | 0, _, _, _, _ => none
 | k + 1, x3, x30, x31, x32 => if x32 < x31 then (if 0 ≤ x32 then (if x32 < (x30.length : Int) then ((note_num.f (rd x30 x32)).bind fun t116 => (if x3.length < 8796093022208 then (note_PutConfig.l0 k (x3 ++ [t116]) x30 x31 (wrap64 (x32 + 1))) else (none))) else (none)) else (none)) else ((strings_Join.f x3 (⟨#[32]⟩ : ByteArray)).bind fun t120 => (some t120))
end
def note_PutConfig.f (k : Nat) (a0_0 : Int) (a0_1 : Int) (a0_2 : Int) (a0_3 : Int) (l0_4 : List Int) : Option (ByteArray) := (rule_Config.f a0_0 a0_1 a0_2 a0_3 l0_4).bind fun t104 => (if t104 = true then ((note_num.f a0_0).bind fun t105 => ((note_num.f a0_1).bind fun t106 => ((note_num.f a0_2).bind fun t107 => ((note_num.f a0_3).bind fun t108 => ((some (([(⟨#[99, 111, 114, 101, 115]⟩ : ByteArray), t105, (⟨#[115, 121, 110, 99, 115]⟩ : ByteArray), t106, (⟨#[108, 97, 103]⟩ : ByteArray), t107, (⟨#[109, 111, 118, 101]⟩ : ByteArray), t108] : List ByteArray) : List ByteArray)).bind fun y109 => (if (l0_4.length : Int) > 0 then (if y109.length < 8796093022208 then (note_PutConfig.j0 k (y109 ++ [(⟨#[114, 101, 115]⟩ : ByteArray)]) a0_0 a0_1 a0_2 a0_3 l0_4) else (none)) else (note_PutConfig.j0 k y109 a0_0 a0_1 a0_2 a0_3 l0_4))))))) else (some (⟨#[]⟩ : ByteArray)))
def note_PutConfig.T3 : Bool × List (List Nat × List Nat) := (true, [([], []), ([0], [0]), ([1], [1]), ([], []), ([3], [3]), ([4, 2], [4]), ([], []), ([6], [6]), ([7, 5], [7]), ([], []), ([9], [9]), ([10, 8], [10]), ([2, 5, 8, 11], [2, 5, 8, 11]), ([12, 11, 0, 1, 2, 3, 4, 5, 6, 7, 8, 9, 10, 11, 12], [12])])
def note_PutConfig.B3 : List Nat := [0, 1, 3, 0, 8, 31, 0, 64, 255, 0, 512, 2047, 4095, 8191]
theorem note_PutConfig.tab3 : rtab .any (opsOf Tryz.f59 3) = note_PutConfig.T3 := by kernel_rfl
theorem note_PutConfig.bits3 : waitsOk note_PutConfig.T3.2 note_PutConfig.B3 = true := by kernel_rfl
set_option maxHeartbeats 8000000 in
set_option maxRecDepth 100000 in
theorem note_PutConfig.calls (k : Nat) (a0_0 : Int) (a0_1 : Int) (a0_2 : Int) (a0_3 : Int) (A0_4 : Option Addr) (c0_4 : Nat) (l0_4 : List Int) (r : ByteArray) (w : World) (hr0_4 : Kd.C (Kd.int .i64) w A0_4 l0_4.length l0_4) (hc0_4 : l0_4.length ≤ c0_4) (h : note_PutConfig.f k a0_0 a0_1 a0_2 a0_3 l0_4 = some r) :
  Calls Tryz.prog 59 #[.agg #[.int .i64 a0_0, .int .i64 a0_1, .int .i64 a0_2, .int .i64 a0_3, .slice A0_4 l0_4.length c0_4]] w fun e w' => e = .returned (.string r) ∧ Below w.heap.size w w' := by
 have hu57 := Tryz.underlying57
 have HR0_4 := Aside0.mk hr0_4
 have HC0_4 := Aside0.mk hc0_4
 clear hr0_4 hc0_4
 have HB := Aside0.mk (Below.refl w.heap.size w)
 have H : ((rule_Config.f a0_0 a0_1 a0_2 a0_3 l0_4).bind fun t104 => (if t104 = true then ((note_num.f a0_0).bind fun t105 => ((note_num.f a0_1).bind fun t106 => ((note_num.f a0_2).bind fun t107 => ((note_num.f a0_3).bind fun t108 => ((some (([(⟨#[99, 111, 114, 101, 115]⟩ : ByteArray), t105, (⟨#[115, 121, 110, 99, 115]⟩ : ByteArray), t106, (⟨#[108, 97, 103]⟩ : ByteArray), t107, (⟨#[109, 111, 118, 101]⟩ : ByteArray), t108] : List ByteArray) : List ByteArray)).bind fun y109 => (if (l0_4.length : Int) > 0 then (if y109.length < 8796093022208 then (note_PutConfig.j0 k (y109 ++ [(⟨#[114, 101, 115]⟩ : ByteArray)]) a0_0 a0_1 a0_2 a0_3 l0_4) else (none)) else (note_PutConfig.j0 k y109 a0_0 a0_1 a0_2 a0_3 l0_4))))))) else (some (⟨#[]⟩ : ByteArray)))) = some r := h
 clear h
 replace H := Option.bind_eq_some_iff.mp H
 obtain ⟨t104, A20, H⟩ := H
 have A2 := Aside0.mk A20
 clear A20
 by_cases c3 : t104 = true
 ·subst c3
  have H1 : ((note_num.f a0_0).bind fun t105 => ((note_num.f a0_1).bind fun t106 => ((note_num.f a0_2).bind fun t107 => ((note_num.f a0_3).bind fun t108 => ((some (([(⟨#[99, 111, 114, 101, 115]⟩ : ByteArray), t105, (⟨#[115, 121, 110, 99, 115]⟩ : ByteArray), t106, (⟨#[108, 97, 103]⟩ : ByteArray), t107, (⟨#[109, 111, 118, 101]⟩ : ByteArray), t108] : List ByteArray) : List ByteArray)).bind fun y109 => (if (l0_4.length : Int) > 0 then (if y109.length < 8796093022208 then (note_PutConfig.j0 k (y109 ++ [(⟨#[114, 101, 115]⟩ : ByteArray)]) a0_0 a0_1 a0_2 a0_3 l0_4) else (none)) else (note_PutConfig.j0 k y109 a0_0 a0_1 a0_2 a0_3 l0_4))))))) = some r := by rw [if_pos rfl] at H; exact H
  clear H
  have H := H1
  clear H1
  replace H := Option.bind_eq_some_iff.mp H
  obtain ⟨t105, A40, H⟩ := H
  have A4 := Aside0.mk A40
  clear A40
  replace H := Option.bind_eq_some_iff.mp H
  obtain ⟨t106, A50, H⟩ := H
  have A5 := Aside0.mk A50
  clear A50
  replace H := Option.bind_eq_some_iff.mp H
  obtain ⟨t107, A60, H⟩ := H
  have A6 := Aside0.mk A60
  clear A60
  replace H := Option.bind_eq_some_iff.mp H
  obtain ⟨t108, A70, H⟩ := H
  have A7 := Aside0.mk A70
  clear A70
  obtain ⟨y109, hy109⟩ : ∃ y_ : List ByteArray, y_ = (([(⟨#[99, 111, 114, 101, 115]⟩ : ByteArray), t105, (⟨#[115, 121, 110, 99, 115]⟩ : ByteArray), t106, (⟨#[108, 97, 103]⟩ : ByteArray), t107, (⟨#[109, 111, 118, 101]⟩ : ByteArray), t108] : List ByteArray)) := ⟨_, rfl⟩
  replace H : (if (l0_4.length : Int) > 0 then (if y109.length < 8796093022208 then (note_PutConfig.j0 k (y109 ++ [(⟨#[114, 101, 115]⟩ : ByteArray)]) a0_0 a0_1 a0_2 a0_3 l0_4) else (none)) else (note_PutConfig.j0 k y109 a0_0 a0_1 a0_2 a0_3 l0_4)) = some r := by (have H2_ := (Option.bind_some _ _).symm.trans H; rw [hy109]; with_reducible exact H2_)
  have Ny109 := Aside0.mk hy109
  clear hy109
  have HC8 := Aside0.mk H
  clear H
  go_enter Tryz.func59, Tryz.ntmps59
  try go_wp2_with (first | ((with_reducible refine gate_dst (N := 1) rfl ?_); refine box_event ?hg (N := 1) ?hd (cs := #[.int .i64 a0_0, .int .i64 a0_1, .int .i64 a0_2, .int .i64 a0_3, .slice A0_4 l0_4.length c0_4]) (t := 57) ?hr ?_; (case hd => rfl); (case hg => rfl); (case hr => (go_simp; done)); intro gb103 hg w9 hbox hb; have BK103 := Aside0.mk (hbox); have GW103 := Aside0.mk ((by rw [hg]; exact below_size HB.out : w.heap.size ≤ gb103)); have GE103 := Aside0.mk ((by rw [hg]; exact below_size HB.out : w.heap.size ≤ gb103)); replace HB := Aside0.mk (below_step HB.out hb); clear hb hbox hg; have hcz10_0 : w9.cell? ⟨gb103, 0, none⟩ = some (.int .i64 a0_0) := (blk_cell BK103.out 0).trans rfl; have hcz10_1 : w9.cell? ⟨gb103, 1, none⟩ = some (.int .i64 a0_1) := (blk_cell BK103.out 1).trans rfl; have hcz10_2 : w9.cell? ⟨gb103, 2, none⟩ = some (.int .i64 a0_2) := (blk_cell BK103.out 2).trans rfl; have hcz10_3 : w9.cell? ⟨gb103, 3, none⟩ = some (.int .i64 a0_3) := (blk_cell BK103.out 3).trans rfl; have hcz10_4 : w9.cell? ⟨gb103, 4, none⟩ = some (.slice A0_4 l0_4.length c0_4) := (blk_cell BK103.out 4).trans rfl; have hfz10_0 := blk_frozen BK103.out 0; have hfz10_1 := blk_frozen BK103.out 1; have hfz10_2 := blk_frozen BK103.out 2; have hfz10_3 := blk_frozen BK103.out 3; have hfz10_4 := blk_frozen BK103.out 4) | ((with_reducible refine gate_callee (f := 64) rfl ?_); refine goesL_ (some 7) rfl rfl Tryz.func64 (by kernel_rfl) rfl #[.agg #[.int .i64 a0_0, .int .i64 a0_1, .int .i64 a0_2, .int .i64 a0_3, .slice A0_4 l0_4.length c0_4]] rfl (by (try simp only [List.map_toArray, List.map_cons, List.map_nil]); (rfl)) ?_; (with_reducible refine (rule_Config.calls a0_0 a0_1 a0_2 a0_3 _ _ l0_4 true _ ?side1 ?side2 A2.out).mono ?_); (case side1 => repeat ((exact (Kd.C_below HR0_4.out HB.out)))); (case side2 => exact HC0_4.out); rintro e w11 ⟨rfl, hb⟩; refine ⟨_, rfl, ?_⟩; replace BK103 := Aside0.mk (blk_below BK103.out hb); replace HB := Aside0.mk (below_step HB.out hb); (try clear hb); (try clear hb2); (try clear hk); (try clear hi)))
  replace BK103 := Aside0.mk (blk_drew BK103.out)
  replace HB := Aside0.mk (below_drew1 HB.out)
  refine start_ (n := 14) (S := fun w' => w'.cell? ⟨gb103, 0, none⟩ = some (.int .i64 a0_0) ∧ w'.cell? ⟨gb103, 1, none⟩ = some (.int .i64 a0_1) ∧ w'.cell? ⟨gb103, 2, none⟩ = some (.int .i64 a0_2) ∧ w'.cell? ⟨gb103, 3, none⟩ = some (.int .i64 a0_3) ∧ w'.cell? ⟨gb103, 4, none⟩ = some (.slice A0_4 l0_4.length c0_4)) (ds := []) (bs 14 0) (by kernel_rfl) rfl rfl ⟨(blk_cell BK103.out 0).trans rfl, (blk_cell BK103.out 1).trans rfl, (blk_cell BK103.out 2).trans rfl, (blk_cell BK103.out 3).trans rfl, (blk_cell BK103.out 4).trans rfl⟩ (fun hHeld => ?_); refine with_tabW note_PutConfig.tab3 note_PutConfig.bits3 (fun HT_ HW_ => ?_)
  generalize w11.drew = w12 at BK103 HB hHeld ⊢
  refine pureA_ (i := 0) (N := some 9) (bs 14 1) HT_ ?_
  refine pureA_ (i := 3) (N := some 12) (bs 14 9) HT_ ?_
  refine pureA_ (i := 6) (N := some 15) (bs 14 73) HT_ ?_
  refine pureA_ (i := 9) (N := some 18) (bs 14 585) HT_ ?_
  refine takeA_ (i := 1) (N := some 10) (bs 14 587) HT_ HW_ hHeld ?_
  refine takeA_ (i := 4) (N := some 13) (bs 14 603) HT_ HW_ hHeld ?_
  refine takeA_ (i := 7) (N := some 16) (bs 14 731) HT_ HW_ hHeld ?_
  refine takeA_ (i := 10) (N := some 19) (bs 14 1755) HT_ HW_ hHeld ?_
  refine one_ (i := 2) (N := some 11) (bs 14 1759) rfl rfl (one_of HT_.out (by kernel_rfl)) (by decide) (fun K hK => ?_)
  refine goes_ Tryz.func69 (by kernel_rfl) rfl #[.int .i64 a0_0] (by rfl) rfl rfl (by (try simp only [List.map_toArray, List.map_cons, List.map_nil]); (rfl)) ?_
  with_reducible refine (note_num.calls a0_0 t105 _ A4.out).mono ?_
  rintro e w13 ⟨rfl, hb⟩
  refine ⟨_, rfl, ?_⟩
  replace BK103 := Aside0.mk (blk_below BK103.out hb)
  replace HB := Aside0.mk (below_step HB.out hb)
  (try clear hb)
  (try clear hb2)
  (try clear hk)
  (try clear hi)
  refine hK.out _ _ ⟨(blk_cell BK103.out 0).trans rfl, (blk_cell BK103.out 1).trans rfl, (blk_cell BK103.out 2).trans rfl, (blk_cell BK103.out 3).trans rfl, (blk_cell BK103.out 4).trans rfl⟩ (fun hHeld => ?_)
  clear hK K
  refine norm_ (a' := ?_) ?_ ?_
  rotate_left
  ·show Act.put _ (some 11) _ = _
   simp only [Act.put, List.setIfInBounds_toArray, List.set_cons_zero, List.set_cons_succ, i64_w, i32_w]
   rfl
  refine one_ (i := 5) (N := some 14) (bs 14 1791) rfl rfl (one_of HT_.out (by kernel_rfl)) (by decide) (fun K hK => ?_)
  refine goes_ Tryz.func69 (by kernel_rfl) rfl #[.int .i64 a0_1] (by rfl) rfl rfl (by (try simp only [List.map_toArray, List.map_cons, List.map_nil]); (rfl)) ?_
  with_reducible refine (note_num.calls a0_1 t106 _ A5.out).mono ?_
  rintro e w14 ⟨rfl, hb⟩
  refine ⟨_, rfl, ?_⟩
  replace BK103 := Aside0.mk (blk_below BK103.out hb)
  replace HB := Aside0.mk (below_step HB.out hb)
  (try clear hb)
  (try clear hb2)
  (try clear hk)
  (try clear hi)
  refine hK.out _ _ ⟨(blk_cell BK103.out 0).trans rfl, (blk_cell BK103.out 1).trans rfl, (blk_cell BK103.out 2).trans rfl, (blk_cell BK103.out 3).trans rfl, (blk_cell BK103.out 4).trans rfl⟩ (fun hHeld => ?_)
  clear hK K
  refine norm_ (a' := ?_) ?_ ?_
  rotate_left
  ·show Act.put _ (some 14) _ = _
   simp only [Act.put, List.setIfInBounds_toArray, List.set_cons_zero, List.set_cons_succ, i64_w, i32_w]
   rfl
  refine one_ (i := 8) (N := some 17) (bs 14 2047) rfl rfl (one_of HT_.out (by kernel_rfl)) (by decide) (fun K hK => ?_)
  refine goes_ Tryz.func69 (by kernel_rfl) rfl #[.int .i64 a0_2] (by rfl) rfl rfl (by (try simp only [List.map_toArray, List.map_cons, List.map_nil]); (rfl)) ?_
  with_reducible refine (note_num.calls a0_2 t107 _ A6.out).mono ?_
  rintro e w15 ⟨rfl, hb⟩
  refine ⟨_, rfl, ?_⟩
  replace BK103 := Aside0.mk (blk_below BK103.out hb)
  replace HB := Aside0.mk (below_step HB.out hb)
  (try clear hb)
  (try clear hb2)
  (try clear hk)
  (try clear hi)
  refine hK.out _ _ ⟨(blk_cell BK103.out 0).trans rfl, (blk_cell BK103.out 1).trans rfl, (blk_cell BK103.out 2).trans rfl, (blk_cell BK103.out 3).trans rfl, (blk_cell BK103.out 4).trans rfl⟩ (fun hHeld => ?_)
  clear hK K
  refine norm_ (a' := ?_) ?_ ?_
  rotate_left
  ·show Act.put _ (some 17) _ = _
   simp only [Act.put, List.setIfInBounds_toArray, List.set_cons_zero, List.set_cons_succ, i64_w, i32_w]
   rfl
  refine one_ (i := 11) (N := some 20) (bs 14 4095) rfl rfl (one_of HT_.out (by kernel_rfl)) (by decide) (fun K hK => ?_)
  refine goes_ Tryz.func69 (by kernel_rfl) rfl #[.int .i64 a0_3] (by rfl) rfl rfl (by (try simp only [List.map_toArray, List.map_cons, List.map_nil]); (rfl)) ?_
  with_reducible refine (note_num.calls a0_3 t108 _ A7.out).mono ?_
  rintro e w16 ⟨rfl, hb⟩
  refine ⟨_, rfl, ?_⟩
  replace BK103 := Aside0.mk (blk_below BK103.out hb)
  replace HB := Aside0.mk (below_step HB.out hb)
  (try clear hb)
  (try clear hb2)
  (try clear hk)
  (try clear hi)
  refine hK.out _ _ ⟨(blk_cell BK103.out 0).trans rfl, (blk_cell BK103.out 1).trans rfl, (blk_cell BK103.out 2).trans rfl, (blk_cell BK103.out 3).trans rfl, (blk_cell BK103.out 4).trans rfl⟩ (fun hHeld => ?_)
  clear hK K
  refine norm_ (a' := ?_) ?_ ?_
  rotate_left
  ·show Act.put _ (some 20) _ = _
   simp only [Act.put, List.setIfInBounds_toArray, List.set_cons_zero, List.set_cons_succ, i64_w, i32_w]
   rfl
  refine one_ (i := 12) (N := some 21) (bs 14 8191) rfl rfl (one_of HT_.out (by kernel_rfl)) (by decide) (fun K hK => ?_)
  refine Kd.R_lit_step Kd.string _ 9 ?hg (N := 21) ?hd (xs := ([(⟨#[99, 111, 114, 101, 115]⟩ : ByteArray), t105, (⟨#[115, 121, 110, 99, 115]⟩ : ByteArray), t106, (⟨#[108, 97, 103]⟩ : ByteArray), t107, (⟨#[109, 111, 118, 101]⟩ : ByteArray), t108] : List ByteArray)) (inner := [.string (⟨#[99, 111, 114, 101, 115]⟩ : ByteArray), .string t105, .string (⟨#[115, 121, 110, 99, 115]⟩ : ByteArray), .string t106, .string (⟨#[108, 97, 103]⟩ : ByteArray), .string t107, .string (⟨#[109, 111, 118, 101]⟩ : ByteArray), .string t108]) (ok := fun _ => True) (okp := fun _ => True) ?hr ?hp (fun _ hk => hk) trivial (Below.refl _ _) (Nat.le_refl _) (by simp) ?_; (case hd => rfl); (case hg => rfl); (case hr => (go_simp; done)); (case hp => exact (Reps.one (show Kd.M Kd.string _ _ _ (⟨#[99, 111, 114, 101, 115]⟩ : ByteArray) [.string (⟨#[99, 111, 114, 101, 115]⟩ : ByteArray)] from rfl) (Reps.one (show Kd.M Kd.string _ _ _ t105 [.string t105] from rfl) (Reps.one (show Kd.M Kd.string _ _ _ (⟨#[115, 121, 110, 99, 115]⟩ : ByteArray) [.string (⟨#[115, 121, 110, 99, 115]⟩ : ByteArray)] from rfl) (Reps.one (show Kd.M Kd.string _ _ _ t106 [.string t106] from rfl) (Reps.one (show Kd.M Kd.string _ _ _ (⟨#[108, 97, 103]⟩ : ByteArray) [.string (⟨#[108, 97, 103]⟩ : ByteArray)] from rfl) (Reps.one (show Kd.M Kd.string _ _ _ t107 [.string t107] from rfl) (Reps.one (show Kd.M Kd.string _ _ _ (⟨#[109, 111, 118, 101]⟩ : ByteArray) [.string (⟨#[109, 111, 118, 101]⟩ : ByteArray)] from rfl) (Reps.one (show Kd.M Kd.string _ _ _ t108 [.string t108] from rfl) (Reps.none _ _))))))))))
  intro v110 w17 ho18 hb hg_ hnew_
  clear hg_ hnew_
  ((rw [← Ny109.out] at ho18))
  have HO111 := Aside0.mk (Kd.R_lower ho18 (below_size HB.out))
  replace BK103 := Aside0.mk (blk_below BK103.out hb)
  replace HB := Aside0.mk (below_step HB.out hb)
  clear hb ho18
  refine hK.out _ _ ⟨(blk_cell BK103.out 0).trans rfl, (blk_cell BK103.out 1).trans rfl, (blk_cell BK103.out 2).trans rfl, (blk_cell BK103.out 3).trans rfl, (blk_cell BK103.out 4).trans rfl⟩ (fun hHeld => ?_)
  clear hK K
  refine norm_ (a' := ?_) ?_ ?_
  rotate_left
  ·show Act.put _ (some 21) _ = _
   simp only [Act.put, List.setIfInBounds_toArray, List.set_cons_zero, List.set_cons_succ, i64_w, i32_w]
   rfl
  refine pureA_ (i := 13) (N := some 3) (bs 14 16383) HT_ ?_
  refine done_ (done_of HT_.out (by kernel_rfl)) ?_
  have hcz19_0 : w17.cell? ⟨gb103, 0, none⟩ = some (.int .i64 a0_0) := (blk_cell BK103.out 0).trans rfl
  have hcz19_1 : w17.cell? ⟨gb103, 1, none⟩ = some (.int .i64 a0_1) := (blk_cell BK103.out 1).trans rfl
  have hcz19_2 : w17.cell? ⟨gb103, 2, none⟩ = some (.int .i64 a0_2) := (blk_cell BK103.out 2).trans rfl
  have hcz19_3 : w17.cell? ⟨gb103, 3, none⟩ = some (.int .i64 a0_3) := (blk_cell BK103.out 3).trans rfl
  have hcz19_4 : w17.cell? ⟨gb103, 4, none⟩ = some (.slice A0_4 l0_4.length c0_4) := (blk_cell BK103.out 4).trans rfl
  have hfz19_0 := blk_frozen BK103.out 0
  have hfz19_1 := blk_frozen BK103.out 1
  have hfz19_2 := blk_frozen BK103.out 2
  have hfz19_3 := blk_frozen BK103.out 3
  have hfz19_4 := blk_frozen BK103.out 4
  go_upto_if 25 with (fail)
  go_cut [3] (fun v3 wc => ∃ (kq : Nat) (x3_7 : List ByteArray), Aside0 (note_PutConfig.j0 kq x3_7 a0_0 a0_1 a0_2 a0_3 l0_4 = some r) ∧ Aside0 (kq ≤ k) ∧ Aside0 (Kd.R Kd.string 9 wc w.heap.size (fun _ => True) v3 x3_7) ∧ Aside0 (wc.heap[gb103]? = some (.cells #[.int .i64 a0_0, .int .i64 a0_1, .int .i64 a0_2, .int .i64 a0_3, (.slice A0_4 l0_4.length c0_4)] 57 (0, 0))) ∧ Aside0 (Below w.heap.size w wc))
  case first =>
   have H := HC8.out
   clear HC8
   by_cases c20 : (l0_4.length : Int) > 0
   ·rw [if_pos c20] at H
    have c20b0 : decide (0 < (l0_4.length : Int)) = true := decide_eq_true c20
    have c20b1 : decide (0 < l0_4.length) = true := decide_eq_true (by omega)
    try have c20b3 : (0 < l0_4.length) = True := eq_true (by omega)
    clear c20
    ((skip))
    by_cases c21 : y109.length < 8796093022208
    ·rw [if_pos c21] at H
     have LMc21 := Aside0.mk c21
     clear c21
     obtain ⟨y112, hy112⟩ : ∃ y_ : List ByteArray, y_ = (y109 ++ [(⟨#[114, 101, 115]⟩ : ByteArray)]) := ⟨_, rfl⟩
     replace H : (note_PutConfig.j0 k y112 a0_0 a0_1 a0_2 a0_3 l0_4) = some r := by (rw [hy112]; with_reducible exact H)
     have Ny112 := Aside0.mk hy112
     clear hy112
     have H' := Aside0.mk H
     clear H
     go_wp2_with (((with_reducible refine gate_builtin (b := .append) (xs := #[.tmp 26, .tmp 27]) rfl ?_); at_builtin; refine Kd.R_append Kd.string (w0 := w) w.heap.size rfl (.tmp 26) (.tmp 27) 78 9 (.string ⟨#[]⟩) 16 rfl Tryz.underlying78 info9 rfl (by decide) (by omega) v110 y109 (⟨#[114, 101, 115]⟩ : ByteArray) [.string (⟨#[114, 101, 115]⟩ : ByteArray)] (fun _ => True) (fun _ => False) rfl rfl ?aP (fun _ hk => hk.elim) ?aF ?aO ?aB ?aS ?aL ?_; (case aP => exact rfl); (case aB => exact HB.out); (case aF => exact (fun _ _ => trivial)); (case aO => exact HO111.out); (case aS => exact below_size HB.out); (case aL => have := LMc21.out; omega); intro v113 w22 ho hb hg hat; rw [← Ny112.out] at ho; have HO114 := Aside0.mk (ho); replace BK103 := Aside0.mk (blk_grown BK103.out hg (Kd.R_ne HO111.out BK103.out (by decide))); replace HB := Aside0.mk (hb); clear HO111; clear ho hb hg hat))
     all_goals try (exact absurd (of_eq_true c20b3) (by assumption))
     go_meet
     case rel => exact ⟨_, (y112), H', ⟨by (omega)⟩, ⟨HO114.out⟩, ⟨BK103.out⟩, ⟨HB.out⟩⟩
    ·rw [if_neg c21] at H
     exact absurd H (by simp)
   ·rw [if_neg c20] at H
    have c20b0 : decide (0 < (l0_4.length : Int)) = false := decide_eq_false c20
    have c20b1 : decide (0 < l0_4.length) = false := decide_eq_false (by omega)
    try have c20b3 : (0 < l0_4.length) = False := eq_false (by omega)
    clear c20
    ((skip))
    have H' := Aside0.mk H
    clear H
    go_wp2
    all_goals try (exact absurd (by assumption) (of_eq_false c20b3))
    go_meet
    case rel => exact ⟨_, (y109), H', ⟨by (omega)⟩, ⟨HO111.out⟩, ⟨BK103.out⟩, ⟨HB.out⟩⟩
  case rest =>
   clear HC8
   try clear hcz10_0
   try clear hcz10_1
   try clear hcz10_2
   try clear hcz10_3
   try clear hcz10_4
   try clear hcz19_0
   try clear hcz19_1
   try clear hcz19_2
   try clear hcz19_3
   try clear hcz19_4
   try clear hfz10_0
   try clear hfz10_1
   try clear hfz10_2
   try clear hfz10_3
   try clear hfz10_4
   try clear hfz19_0
   try clear hfz19_1
   try clear hfz19_2
   try clear hfz19_3
   try clear hfz19_4
   obtain ⟨kq, x3_7, HA, HJ7, HO_3, BK103, HB⟩ := hcut
   cases kq with
   | zero => exact absurd HA.out (by simp [note_PutConfig.j0])
   | succ kj7 =>
    have H := HA.out
    clear HA
    simp only [note_PutConfig.j0] at H
    have H' := Aside0.mk H
    clear H
    have hcz23_0 : wc.cell? ⟨gb103, 0, none⟩ = some (.int .i64 a0_0) := (blk_cell BK103.out 0).trans rfl
    have hcz23_1 : wc.cell? ⟨gb103, 1, none⟩ = some (.int .i64 a0_1) := (blk_cell BK103.out 1).trans rfl
    have hcz23_2 : wc.cell? ⟨gb103, 2, none⟩ = some (.int .i64 a0_2) := (blk_cell BK103.out 2).trans rfl
    have hcz23_3 : wc.cell? ⟨gb103, 3, none⟩ = some (.int .i64 a0_3) := (blk_cell BK103.out 3).trans rfl
    have hcz23_4 : wc.cell? ⟨gb103, 4, none⟩ = some (.slice A0_4 l0_4.length c0_4) := (blk_cell BK103.out 4).trans rfl
    have hfz23_0 := blk_frozen BK103.out 0
    have hfz23_1 := blk_frozen BK103.out 1
    have hfz23_2 := blk_frozen BK103.out 2
    have hfz23_3 := blk_frozen BK103.out 3
    have hfz23_4 := blk_frozen BK103.out 4
    go_wp2
    go_loopg [3, 32] kj7 (fun kq v3 v32 w' => ∃ (x3_2 : List ByteArray) (x32_2 : Int), v32 = .int .i64 x32_2 ∧ Aside0 (note_PutConfig.l0 kq x3_2 l0_4 (l0_4.length : Int) x32_2 = some r) ∧ Aside0 (kq ≤ kj7) ∧ Aside0 (Kd.R Kd.string 9 w' w.heap.size (fun _ => True) v3 x3_2) ∧ Aside0 (w'.heap[gb103]? = some (.cells #[.int .i64 a0_0, .int .i64 a0_1, .int .i64 a0_2, .int .i64 a0_3, (.slice A0_4 l0_4.length c0_4)] 57 (0, 0))) ∧ Aside0 (Below w.heap.size w w'))
    case atStart => exact ⟨(x3_7), (0), (by (rfl)), H', ⟨Nat.le_refl _⟩, ⟨HO_3.out⟩, ⟨BK103.out⟩, ⟨HB.out⟩⟩
    case round =>
     clear H'
     try clear hcz23_0
     try clear hcz23_1
     try clear hcz23_2
     try clear hcz23_3
     try clear hcz23_4
     try clear hfz23_0
     try clear hfz23_1
     try clear hfz23_2
     try clear hfz23_3
     try clear hfz23_4
     obtain ⟨x3_2, x32_2, rfl, HA, HK2, HO_3, BK103, HB⟩ := hrel
     cases gk with
     | zero => exact absurd HA.out (by simp [note_PutConfig.l0])
     | succ k2 =>
      have H := HA.out
      clear HA
      simp only [note_PutConfig.l0] at H
      by_cases c24 : x32_2 < (l0_4.length : Int)
      ·rw [if_pos c24] at H
       have c24b0 : decide (x32_2 < (l0_4.length : Int)) = true := decide_eq_true c24
       clear c24
       by_cases c25 : 0 ≤ x32_2
       ·rw [if_pos c25] at H
        have c25b0 : decide (0 ≤ x32_2) = true := decide_eq_true c25
        clear c25
        by_cases c26 : x32_2 < (l0_4.length : Int)
        ·rw [if_pos c26] at H
         have c26b0 : decide (x32_2 < (l0_4.length : Int)) = true := decide_eq_true c26
         clear c26
         replace H := Option.bind_eq_some_iff.mp H
         obtain ⟨t116, A270, H⟩ := H
         have A27 := Aside0.mk A270
         clear A270
         by_cases c28 : x3_2.length < 8796093022208
         ·rw [if_pos c28] at H
          have LMc28 := Aside0.mk c28
          clear c28
          obtain ⟨y117, hy117⟩ : ∃ y_ : List ByteArray, y_ = (x3_2 ++ [t116]) := ⟨_, rfl⟩
          replace H : (note_PutConfig.l0 k2 y117 l0_4 (l0_4.length : Int) (wrap64 (x32_2 + 1))) = some r := by (rw [hy117]; with_reducible exact H)
          have Ny117 := Aside0.mk hy117
          clear hy117
          have H' := Aside0.mk H
          clear H
          have p115 : 0 ≤ (x32_2 : Int) := of_decide_eq_true (by (with_reducible assumption))
          have q115 : x32_2 < (l0_4.length : Int) := of_decide_eq_true (by (with_reducible assumption))
          obtain ⟨ad115, e115, hx115_0⟩ := Kd.at_int HR0_4.out x32_2 p115 q115
          cases e115
          replace hx115_0 := (HB.out.cell (World.block_lt_of_cell? w _ hx115_0)).trans hx115_0
          replace p115 := eq_true p115
          replace q115 := eq_true q115
          go_wp2_with (first | ((with_reducible refine gate_callee (f := 69) rfl ?_); refine goesL_ (some 38) rfl rfl Tryz.func69 (by kernel_rfl) rfl #[.int .i64 (rd l0_4 x32_2)] rfl (by (try simp only [List.map_toArray, List.map_cons, List.map_nil]); (rfl)) ?_; (with_reducible refine (note_num.calls (rd l0_4 x32_2) t116 _ A27.out).mono ?_); rintro e w29 ⟨rfl, hb⟩; refine ⟨_, rfl, ?_⟩; replace HO_3 := Aside0.mk (Kd.R_below HO_3.out hb); replace BK103 := Aside0.mk (blk_below BK103.out hb); replace HB := Aside0.mk (below_step HB.out hb); (try clear hb); (try clear hb2); (try clear hk); (try clear hi)) | ((with_reducible refine gate_builtin (b := .append) (xs := #[.tmp 36, .tmp 39]) rfl ?_); at_builtin; refine Kd.R_append Kd.string (w0 := w) w.heap.size rfl (.tmp 36) (.tmp 39) 78 9 (.string ⟨#[]⟩) 16 rfl Tryz.underlying78 info9 rfl (by decide) (by omega) u3 x3_2 t116 [.string t116] (fun _ => True) (fun _ => False) rfl rfl ?aP (fun _ hk => hk.elim) ?aF ?aO ?aB ?aS ?aL ?_; (case aP => exact rfl); (case aB => exact HB.out); (case aF => exact (fun _ _ => trivial)); (case aO => exact HO_3.out); (case aS => exact below_size HB.out); (case aL => have := LMc28.out; omega); intro v118 w30 ho hb hg hat; rw [← Ny117.out] at ho; have HO119 := Aside0.mk (ho); replace BK103 := Aside0.mk (blk_grown BK103.out hg (Kd.R_ne HO_3.out BK103.out (by decide))); replace HB := Aside0.mk (hb); clear HO_3; clear ho hb hg hat))
          go_roundg k2
          case measure => have := HJ7.out; have := HK2.out; omega
          case rel => exact ⟨(y117), (wrap64 (x32_2 + 1)), (by (rfl)), H', ⟨by have := HJ7.out; have := HK2.out; omega⟩, ⟨HO119.out⟩, ⟨BK103.out⟩, ⟨HB.out⟩⟩
         ·rw [if_neg c28] at H
          exact absurd H (by simp)
        ·rw [if_neg c26] at H
         exact absurd H (by simp)
       ·rw [if_neg c25] at H
        exact absurd H (by simp)
      ·rw [if_neg c24] at H
       have c24b0 : decide (x32_2 < (l0_4.length : Int)) = false := decide_eq_false c24
       clear c24
       replace H := Option.bind_eq_some_iff.mp H
       obtain ⟨t120, A310, H⟩ := H
       have A31 := Aside0.mk A310
       clear A310
       obtain rfl := Option.some.inj H
       obtain ⟨Ao32, co32, eo32⟩ := Kd.R_slice HO_3.out
       subst eo32
       go_wp2_with (((with_reducible refine gate_callee (f := 70) rfl ?_); refine goesL_ (some 43) rfl rfl Tryz.func70 (by kernel_rfl) rfl #[.slice Ao32 x3_2.length co32, .string (⟨#[32]⟩ : ByteArray)] rfl (by (try simp only [List.map_toArray, List.map_cons, List.map_nil]); (rfl)) ?_; (with_reducible refine (strings_Join.calls _ _ x3_2 (⟨#[32]⟩ : ByteArray) t120 _ ?side1 ?side2 A31.out).mono ?_); (case side1 => repeat ((exact (Kd.R_reads' HO_3.out).2.2))); (case side2 => exact (Kd.R_reads' HO_3.out).2.1); rintro e w33 ⟨rfl, hb⟩; refine ⟨_, rfl, ?_⟩; replace HO_3 := Aside0.mk (Kd.R_below HO_3.out hb); replace BK103 := Aside0.mk (blk_below BK103.out hb); replace HB := Aside0.mk (below_step HB.out hb); (try clear hb); (try clear hb2); (try clear hk); (try clear hi)))
       go_ret
       exact ⟨by (rfl), by repeat ((with_reducible (exact HB.out)))⟩
 ·replace c3 := Bool.eq_false_iff.mpr c3
  subst c3
  have H1 : (some (⟨#[]⟩ : ByteArray)) = some r := by rw [if_neg (show ¬ (false = true) by decide)] at H; exact H
  clear H
  have H := H1
  clear H1
  obtain rfl := Option.some.inj H
  go_enter Tryz.func59, Tryz.ntmps59
  go_wp2_with (first | ((with_reducible refine gate_dst (N := 1) rfl ?_); refine box_event ?hg (N := 1) ?hd (cs := #[.int .i64 a0_0, .int .i64 a0_1, .int .i64 a0_2, .int .i64 a0_3, .slice A0_4 l0_4.length c0_4]) (t := 57) ?hr ?_; (case hd => rfl); (case hg => rfl); (case hr => (go_simp; done)); intro gb103 hg w34 hbox hb; have BK103 := Aside0.mk (hbox); have GW103 := Aside0.mk ((by rw [hg]; exact below_size HB.out : w.heap.size ≤ gb103)); have GE103 := Aside0.mk ((by rw [hg]; exact below_size HB.out : w.heap.size ≤ gb103)); replace HB := Aside0.mk (below_step HB.out hb); clear hb hbox hg; have hcz35_0 : w34.cell? ⟨gb103, 0, none⟩ = some (.int .i64 a0_0) := (blk_cell BK103.out 0).trans rfl; have hcz35_1 : w34.cell? ⟨gb103, 1, none⟩ = some (.int .i64 a0_1) := (blk_cell BK103.out 1).trans rfl; have hcz35_2 : w34.cell? ⟨gb103, 2, none⟩ = some (.int .i64 a0_2) := (blk_cell BK103.out 2).trans rfl; have hcz35_3 : w34.cell? ⟨gb103, 3, none⟩ = some (.int .i64 a0_3) := (blk_cell BK103.out 3).trans rfl; have hcz35_4 : w34.cell? ⟨gb103, 4, none⟩ = some (.slice A0_4 l0_4.length c0_4) := (blk_cell BK103.out 4).trans rfl; have hfz35_0 := blk_frozen BK103.out 0; have hfz35_1 := blk_frozen BK103.out 1; have hfz35_2 := blk_frozen BK103.out 2; have hfz35_3 := blk_frozen BK103.out 3; have hfz35_4 := blk_frozen BK103.out 4) | ((with_reducible refine gate_callee (f := 64) rfl ?_); refine goesL_ (some 7) rfl rfl Tryz.func64 (by kernel_rfl) rfl #[.agg #[.int .i64 a0_0, .int .i64 a0_1, .int .i64 a0_2, .int .i64 a0_3, .slice A0_4 l0_4.length c0_4]] rfl (by (try simp only [List.map_toArray, List.map_cons, List.map_nil]); (rfl)) ?_; (with_reducible refine (rule_Config.calls a0_0 a0_1 a0_2 a0_3 _ _ l0_4 false _ ?side1 ?side2 A2.out).mono ?_); (case side1 => repeat ((exact (Kd.C_below HR0_4.out HB.out)))); (case side2 => exact HC0_4.out); rintro e w36 ⟨rfl, hb⟩; refine ⟨_, rfl, ?_⟩; replace BK103 := Aside0.mk (blk_below BK103.out hb); replace HB := Aside0.mk (below_step HB.out hb); (try clear hb); (try clear hb2); (try clear hk); (try clear hi)))
  go_ret
  exact ⟨by (rfl), by repeat ((with_reducible (exact HB.out)))⟩

end Go.Proofs.YtddepomgaeadpaaGreatDoor.PBeg
