-- Written by a program of this session (wip/pp.py) over the kit's print, with hand-proved contracts beside it.
import Derived.Test.YtjjlicancbmjiaaGreatDoorL2
import Derived.Test.YtjjlicancbmjiaaGreatDoorPBegx4
namespace Go.Proofs.YtjjlicancbmjiaaGreatDoor.PBeg
open Go.Shelf Go.Lib Go.RowKit Go.Proofs.YtjjlicancbmjiaaGreatDoorW.PrintWords Go.Proofs.YtjjlicancbmjiaaGreatDoorW.PrintLast Go.Proofs.YtjjlicancbmjiaaGreatDoorW.PrintMore
attribute [local go_sem] max2_int min2_int max_two min_two max_three min_three max_four min_four   -- for this text's walks alone
set_option linter.unusedVariables false
set_option linter.unusedSimpArgs false

theorem nil_eq1 (l : List UInt8) (b : Bool) : Ending.returned (.bool ((!l.isEmpty) == b)) = .returned (.bool ((l != []) == b)) := by cases l <;> rfl
theorem nil_eq2 (l : List UInt8) : Ending.returned (.bool l.isEmpty) = .returned (.bool ((l != []) == false)) := by cases l <;> rfl
theorem nil_eq3 (l : List UInt8) : Ending.returned (.bool (!l.isEmpty)) = .returned (.bool ((l != []) == true)) := by cases l <;> rfl
/-! ### hortatorlaw7_RuleLimits: function 7 -/
def hortatorlaw7_RuleLimits.j0 : Nat → Int → Int → Int → Int → Int → Int → List Int → Option (Bool)
 | 0, _, _, _, _, _, _, _ => none
 | k + 1, x0, x1, x266000, x266001, x266002, x266003, x266004 => if (Go.bits .and .i64 x0 7) = 0 then (if (wrap64 (x266000 + (Int.tmod x1 4))) ≥ 1 then ((rule_Config.f (wrap64 (x266000 + (Int.tmod x1 4))) x266001 x266002 x266003 x266004).bind fun t266 => (if (t266 == (decide ((wrap64 (x266000 + (Int.tmod x1 4))) ≤ 6))) = true then ((note_PutConfig.f k (wrap64 (x266000 + (Int.tmod x1 4))) x266001 x266002 x266003 x266004).bind fun t267 => (some ((t267.toList != ([] : List UInt8)) == (decide ((wrap64 (x266000 + (Int.tmod x1 4))) ≤ 6))))) else (none))) else ((rule_Config.f (wrap64 (x266000 + (Int.tmod x1 4))) x266001 x266002 x266003 x266004).bind fun t268 => (if (t268 == false) = true then ((note_PutConfig.f k (wrap64 (x266000 + (Int.tmod x1 4))) x266001 x266002 x266003 x266004).bind fun t269 => (some ((t269.toList != ([] : List UInt8)) == false))) else (none)))) else (if (Go.bits .and .i64 x0 7) = 1 then (if (wrap64 (x266001 + (Int.tmod x1 4))) ≥ 0 then (if (wrap64 (x266001 + (Int.tmod x1 4))) ≤ 3 then (if (x266004.length : Int) = 0 then ((rule_Config.f x266000 (wrap64 (x266001 + (Int.tmod x1 4))) x266002 x266003 x266004).bind fun t270 => (if (t270 == true) = true then ((note_PutConfig.f k x266000 (wrap64 (x266001 + (Int.tmod x1 4))) x266002 x266003 x266004).bind fun t271 => (some ((t271.toList != ([] : List UInt8)) == true))) else (none))) else ((rule_Config.f x266000 (wrap64 (x266001 + (Int.tmod x1 4))) x266002 x266003 x266004).bind fun t272 => (if (t272 == (decide ((wrap64 (x266001 + (Int.tmod x1 4))) ≥ 3))) = true then ((note_PutConfig.f k x266000 (wrap64 (x266001 + (Int.tmod x1 4))) x266002 x266003 x266004).bind fun t273 => (some ((t273.toList != ([] : List UInt8)) == (decide ((wrap64 (x266001 + (Int.tmod x1 4))) ≥ 3))))) else (none)))) else ((rule_Config.f x266000 (wrap64 (x266001 + (Int.tmod x1 4))) x266002 x266003 x266004).bind fun t274 => (if (t274 == false) = true then ((note_PutConfig.f k x266000 (wrap64 (x266001 + (Int.tmod x1 4))) x266002 x266003 x266004).bind fun t275 => (some ((t275.toList != ([] : List UInt8)) == false))) else (none)))) else ((rule_Config.f x266000 (wrap64 (x266001 + (Int.tmod x1 4))) x266002 x266003 x266004).bind fun t276 => (if (t276 == false) = true then ((note_PutConfig.f k x266000 (wrap64 (x266001 + (Int.tmod x1 4))) x266002 x266003 x266004).bind fun t277 => (some ((t277.toList != ([] : List UInt8)) == false))) else (none)))) else (if (Go.bits .and .i64 x0 7) = 2 then (if (wrap64 (x266002 + (Int.tmod x1 4))) ≥ 0 then ((rule_Config.f x266000 x266001 (wrap64 (x266002 + (Int.tmod x1 4))) x266003 x266004).bind fun t278 => (if (t278 == (decide ((wrap64 (x266002 + (Int.tmod x1 4))) ≤ 5))) = true then ((note_PutConfig.f k x266000 x266001 (wrap64 (x266002 + (Int.tmod x1 4))) x266003 x266004).bind fun t279 => (some ((t279.toList != ([] : List UInt8)) == (decide ((wrap64 (x266002 + (Int.tmod x1 4))) ≤ 5))))) else (none))) else ((rule_Config.f x266000 x266001 (wrap64 (x266002 + (Int.tmod x1 4))) x266003 x266004).bind fun t280 => (if (t280 == false) = true then ((note_PutConfig.f k x266000 x266001 (wrap64 (x266002 + (Int.tmod x1 4))) x266003 x266004).bind fun t281 => (some ((t281.toList != ([] : List UInt8)) == false))) else (none)))) else (if (Go.bits .and .i64 x0 7) = 3 then (if (wrap64 (x266003 + (Int.tmod x1 4))) ≥ 0 then ((rule_Config.f x266000 x266001 x266002 (wrap64 (x266003 + (Int.tmod x1 4))) x266004).bind fun t282 => (if (t282 == (decide ((wrap64 (x266003 + (Int.tmod x1 4))) ≤ 5))) = true then ((note_PutConfig.f k x266000 x266001 x266002 (wrap64 (x266003 + (Int.tmod x1 4))) x266004).bind fun t283 => (some ((t283.toList != ([] : List UInt8)) == (decide ((wrap64 (x266003 + (Int.tmod x1 4))) ≤ 5))))) else (none))) else ((rule_Config.f x266000 x266001 x266002 (wrap64 (x266003 + (Int.tmod x1 4))) x266004).bind fun t284 => (if (t284 == false) = true then ((note_PutConfig.f k x266000 x266001 x266002 (wrap64 (x266003 + (Int.tmod x1 4))) x266004).bind fun t285 => (some ((t285.toList != ([] : List UInt8)) == false))) else (none)))) else (if x266004.length < 17592186044416 then ((some (x266004 ++ [Int.tmod x1 4] : List Int)).bind fun y286 => (if (y286.length : Int) ≤ 6 then (if (Int.tmod x1 4) ≥ 0 then ((rule_Config.f x266000 x266001 x266002 x266003 y286).bind fun t289 => (if (t289 == (decide ((Int.tmod x1 4) < x266001))) = true then ((note_PutConfig.f k x266000 x266001 x266002 x266003 y286).bind fun t290 => (some ((t290.toList != ([] : List UInt8)) == (decide ((Int.tmod x1 4) < x266001))))) else (none))) else ((rule_Config.f x266000 x266001 x266002 x266003 y286).bind fun t291 => (if (t291 == false) = true then ((note_PutConfig.f k x266000 x266001 x266002 x266003 y286).bind fun t292 => (some ((t292.toList != ([] : List UInt8)) == false))) else (none)))) else ((rule_Config.f x266000 x266001 x266002 x266003 y286).bind fun t293 => (if (t293 == false) = true then ((note_PutConfig.f k x266000 x266001 x266002 x266003 y286).bind fun t294 => (some ((t294.toList != ([] : List UInt8)) == false))) else (none))))) else (none)))))
def hortatorlaw7_RuleLimits.f (k : Nat) (a0 : Int) (a1 : Int) : Option (Bool) := (begun7.f).bind fun t261 => (if t261 = true then (if (Go.bits .and .i64 a0 8) = 0 then (hortatorlaw7_RuleLimits.j0 k a0 a1 6 3 5 5 (([0, 1, 2, 0, 1, 2] : List Int))) else (hortatorlaw7_RuleLimits.j0 k a0 a1 1 0 0 0 ([] : List Int))) else (none))
set_option maxHeartbeats 8000000 in
set_option maxRecDepth 100000 in
theorem hortatorlaw7_RuleLimits.calls (k : Nat) (a0 : Int) (a1 : Int) (r : Bool) (w : World) (h : hortatorlaw7_RuleLimits.f k a0 a1 = some r) :
  Calls Tryz.prog 7 #[.int .i64 a0, .int .i64 a1] w fun e w' => e = .returned (.bool r) ∧ Below w.heap.size w w' := by
 have hu24 := Tryz.underlying24
 have HB := Aside0.mk (Below.refl w.heap.size w)
 have H : ((begun7.f).bind fun t261 => (if t261 = true then (if (Go.bits .and .i64 a0 8) = 0 then (hortatorlaw7_RuleLimits.j0 k a0 a1 6 3 5 5 (([0, 1, 2, 0, 1, 2] : List Int))) else (hortatorlaw7_RuleLimits.j0 k a0 a1 1 0 0 0 ([] : List Int))) else (none))) = some r := h
 clear h
 replace H := Option.bind_eq_some_iff.mp H
 obtain ⟨t261, A30, H⟩ := H
 have A3 := Aside0.mk A30
 clear A30
 by_cases c4 : t261 = true
 ·subst c4
  have H1 : (if (Go.bits .and .i64 a0 8) = 0 then (hortatorlaw7_RuleLimits.j0 k a0 a1 6 3 5 5 (([0, 1, 2, 0, 1, 2] : List Int))) else (hortatorlaw7_RuleLimits.j0 k a0 a1 1 0 0 0 ([] : List Int))) = some r := by rw [if_pos rfl] at H; exact H
  clear H
  have H := H1
  clear H1
  obtain ⟨y262, hy262⟩ : ∃ y_ : List Int, y_ = (([0, 1, 2, 0, 1, 2] : List Int)) := ⟨_, rfl⟩
  replace H : (if (Go.bits .and .i64 a0 8) = 0 then (hortatorlaw7_RuleLimits.j0 k a0 a1 6 3 5 5 y262) else (hortatorlaw7_RuleLimits.j0 k a0 a1 1 0 0 0 ([] : List Int))) = some r := by first | (rw [hy262]; with_reducible exact H) | (have H2_ := (Option.bind_some _ _).symm.trans H; rw [hy262]; with_reducible exact H2_) | (have H2_ := (Option.bind_some _ _).symm.trans H; with_reducible exact H2_) | with_reducible exact H | (rw [hy262]; exact H) | exact H
  have Ny262 := Aside0.mk hy262
  clear hy262
  have HC5 := Aside0.mk H
  clear H
  go_enter Tryz.func7, Tryz.ntmps7
  go_upto_if 15 with (first | ((with_reducible refine gate_callee (f := 13) rfl ?_); refine goesL_ (some 8) rfl rfl Tryz.func13 (by kernel_rfl) rfl #[] rfl (by (try simp only [List.map_toArray, List.map_cons, List.map_nil]); first | done | rfl | (simp only [List.length_drop, List.length_take]; rfl)) ?_; (with_reducible refine (begun7.calls  true _ A3.out).mono ?_); rintro e w6 ⟨rfl, hb⟩; refine ⟨_, rfl, ?_⟩; have n0_ := Aside0.mk (below_step (by repeat (first | (with_reducible first | exact HB.out | apply below_alloc | apply pw_below_drewN | apply below_drew1) | exact HB.out)) hb); clear HB; have HB := n0_; clear n0_; (try clear hb); (try clear hb2); (try clear hk); (try clear hi)) | ((with_reducible refine gate_dst (N := 11) rfl ?_); (try (refine gate_guard (by rfl) ?_; dsimp only)); refine Kd.R_lit (Kd.int .i64) _ 3 ?hg (N := 11) ?hd (xs := ([0, 1, 2, 0, 1, 2] : List Int)) (inner := [.int .i64 0, .int .i64 1, .int .i64 2, .int .i64 0, .int .i64 1, .int .i64 2]) (ok := fun _ => True) (okp := fun _ => True) ?hr ?hp (fun _ hk => hk) trivial (Below.refl _ _) (Nat.le_refl _) (by simp) ?_; (case hd => rfl); (case hg => rfl); (case hr => first | (go_simp; done) | (go_simp; rfl)); (case hp => exact (Reps.one (show Kd.M (Kd.int .i64) _ _ _ 0 [.int .i64 0] from rfl) (Reps.one (show Kd.M (Kd.int .i64) _ _ _ 1 [.int .i64 1] from rfl) (Reps.one (show Kd.M (Kd.int .i64) _ _ _ 2 [.int .i64 2] from rfl) (Reps.one (show Kd.M (Kd.int .i64) _ _ _ 0 [.int .i64 0] from rfl) (Reps.one (show Kd.M (Kd.int .i64) _ _ _ 1 [.int .i64 1] from rfl) (Reps.one (show Kd.M (Kd.int .i64) _ _ _ 2 [.int .i64 2] from rfl) (Reps.none _ _)))))))); intro v263 w7 ho8 hb hg_ hnew_; clear hg_ hnew_; (first | rw [← Ny262.out] at ho8 | (simp only [Int.reduceToNat] at ho8; rw [← Ny262.out] at ho8)); have n0_ := Aside0.mk (Kd.R_lower ho8 (below_size (by repeat (first | (with_reducible first | exact HB.out | apply below_alloc | apply pw_below_drewN | apply below_drew1) | exact HB.out)))); have n1_ := Aside0.mk (below_step (by repeat (first | (with_reducible first | exact HB.out | apply below_alloc | apply pw_below_drewN | apply below_drew1) | exact HB.out)) hb); clear HB; have HO264 := n0_; have HB := n1_; clear n0_ n1_; clear hb ho8; obtain ⟨Ao9, co9, eo9⟩ := Kd.R_slice HO264.out; subst eo9) | ((with_reducible refine gate_dst (N := 6) rfl ?_); (try (refine gate_guard (by rfl) ?_; dsimp only)); refine box_event ?hg (N := 6) ?hd (cs := #[.int .i64 0, .int .i64 0, .int .i64 0, .int .i64 0, .slice none 0 0]) (t := 24) ?hr ?_; (case hd => rfl); (case hg => rfl); (case hr => first | (go_simp; done) | (go_simp; rfl)); intro gb265 hg w10 hbox hb; have n0_ := Aside0.mk (Kd.R_below (by (with_reducible repeat (first | apply Kd.R_alloc | apply Kd.R_drewN | apply Kd.R_drew)); exact HO264.out) hb); have n1_ := Aside0.mk (below_step (by repeat (first | (with_reducible first | exact HB.out | apply below_alloc | apply pw_below_drewN | apply below_drew1) | exact HB.out)) hb); have n2_ := Aside0.mk (hbox); have n3_ := Aside0.mk ((by rw [hg]; exact (below_size (by repeat (first | (with_reducible first | exact HB.out | apply below_alloc | apply pw_below_drewN | apply below_drew1) | exact HB.out))) : w.heap.size ≤ gb265)); have n4_ := Aside0.mk ((by rw [hg]; exact (below_size (by repeat (first | (with_reducible first | exact HB.out | apply below_alloc | apply pw_below_drewN | apply below_drew1) | exact HB.out))) : w.heap.size ≤ gb265)); clear HO264; clear HB; have HO264 := n0_; have HB := n1_; have BK265 := n2_; have GW265 := n3_; have GE265 := n4_; clear n0_ n1_ n2_ n3_ n4_; clear hb hbox hg; have hcz11_0 : w10.cell? ⟨gb265, 0, none⟩ = some (.int .i64 0) := (blk_cell BK265.out 0).trans rfl; have hcz11_1 : w10.cell? ⟨gb265, 1, none⟩ = some (.int .i64 0) := (blk_cell BK265.out 1).trans rfl; have hcz11_2 : w10.cell? ⟨gb265, 2, none⟩ = some (.int .i64 0) := (blk_cell BK265.out 2).trans rfl; have hcz11_3 : w10.cell? ⟨gb265, 3, none⟩ = some (.int .i64 0) := (blk_cell BK265.out 3).trans rfl; have hcz11_4 : w10.cell? ⟨gb265, 4, none⟩ = some (.slice none 0 0) := (blk_cell BK265.out 4).trans rfl; have hfz11_0 := blk_frozen BK265.out 0; have hfz11_1 := blk_frozen BK265.out 1; have hfz11_2 := blk_frozen BK265.out 2; have hfz11_3 := blk_frozen BK265.out 3; have hfz11_4 := blk_frozen BK265.out 4))
  (try simp only [Act.put, List.setIfInBounds_toArray, List.set_cons_zero, List.set_cons_succ])
  go_cut [] (fun wc => ∃ (kq : Nat) (x266000_4 : Int) (x266001_4 : Int) (x266002_4 : Int) (x266003_4 : Int) (x266004_4 : List Int) (u266004 : Value), Aside0 (hortatorlaw7_RuleLimits.j0 kq a0 a1 x266000_4 x266001_4 x266002_4 x266003_4 x266004_4 = some r) ∧ Aside0 (kq ≤ k) ∧ Aside0 (Kd.R (Kd.int .i64) 3 wc w.heap.size (fun _ => True) u266004 x266004_4) ∧ Aside0 (wc.heap[gb265]? = some (.cells #[.int .i64 x266000_4, .int .i64 x266001_4, .int .i64 x266002_4, .int .i64 x266003_4, u266004] 24 (0, 0))) ∧ Aside0 (Below w.heap.size w wc))
  case first =>
   have H := HC5.out
   clear HC5
   by_cases c12 : (Go.bits .and .i64 a0 8) = 0
   ·rw [if_pos c12] at H
    have c12b0 : ((Go.bits .and .i64 a0 8) == 0) = true := beq_iff_eq.mpr c12
    have c12b1 : ((Go.bits .and .i64 a0 8) != 0) = false := bne_eq_false_iff_eq.mpr c12
    clear c12
    (first | rw [c12b0] | (simp only [i64_w, i32_w]; rw [c12b0]) | skip)
    have H' := Aside0.mk H
    clear H
    go_wp2
    go_meet
    case rel => exact ⟨_, (6), (3), (5), (5), (y262), (.slice Ao9 y262.length co9), H', ⟨by first | omega | exact Nat.le_refl _⟩, ⟨by (with_reducible repeat (first | apply Kd.R_alloc | apply Kd.R_drewN | apply Kd.R_drew)); exact Kd.R_mono (Kd.R_far (p := ⟨gb265, 4, none⟩) (Kd.R_far (p := ⟨gb265, 3, none⟩) (Kd.R_far (p := ⟨gb265, 2, none⟩) (Kd.R_far (p := ⟨gb265, 1, none⟩) (Kd.R_far (p := ⟨gb265, 0, none⟩) (Kd.R_types HO264.out BK265.out (by decide)) (fun _ hk => hk.2) (.int .i64 6)) (fun _ hk => hk.2) (.int .i64 3)) (fun _ hk => hk.2) (.int .i64 5)) (fun _ hk => hk.2) (.int .i64 5)) (fun _ hk => hk.2) (.slice Ao9 y262.length co9)) (fun _ hk => trivial)⟩, ⟨by (with_reducible repeat (first | refine blk_drewN ?_ _ | refine blk_drew ?_ | refine blk_alloc ?_ _)); refine blk_put (cs := #[.int .i64 6, .int .i64 3, .int .i64 5, .int .i64 5, .slice none 0 0]) ?_ 4 _ rfl; (with_reducible repeat (first | refine blk_drewN ?_ _ | refine blk_drew ?_ | refine blk_alloc ?_ _)); refine blk_put (cs := #[.int .i64 6, .int .i64 3, .int .i64 5, .int .i64 0, .slice none 0 0]) ?_ 3 _ rfl; (with_reducible repeat (first | refine blk_drewN ?_ _ | refine blk_drew ?_ | refine blk_alloc ?_ _)); refine blk_put (cs := #[.int .i64 6, .int .i64 3, .int .i64 0, .int .i64 0, .slice none 0 0]) ?_ 2 _ rfl; (with_reducible repeat (first | refine blk_drewN ?_ _ | refine blk_drew ?_ | refine blk_alloc ?_ _)); refine blk_put (cs := #[.int .i64 6, .int .i64 0, .int .i64 0, .int .i64 0, .slice none 0 0]) ?_ 1 _ rfl; (with_reducible repeat (first | refine blk_drewN ?_ _ | refine blk_drew ?_ | refine blk_alloc ?_ _)); refine blk_put (cs := #[.int .i64 0, .int .i64 0, .int .i64 0, .int .i64 0, .slice none 0 0]) ?_ 0 _ rfl; (with_reducible repeat (first | refine blk_drewN ?_ _ | refine blk_drew ?_ | refine blk_alloc ?_ _)); exact BK265.out⟩, ⟨by repeat (first | (with_reducible first | exact HB.out | apply below_alloc | apply pw_below_drewN | apply below_drew1 | refine below_set ?_ GE265.out) | exact HB.out)⟩⟩
   ·rw [if_neg c12] at H
    have c12b0 : ((Go.bits .and .i64 a0 8) == 0) = false := beq_eq_false_iff_ne.mpr c12
    have c12b1 : ((Go.bits .and .i64 a0 8) != 0) = true := bne_iff_ne.mpr c12
    (first | rw [c12b0] | (simp only [i64_w, i32_w]; rw [c12b0]) | skip)
    have H' := Aside0.mk H
    clear H
    have hcz13_0 : w10.cell? ⟨gb265, 0, none⟩ = some (.int .i64 0) := (blk_cell BK265.out 0).trans rfl
    have hcz13_1 : w10.cell? ⟨gb265, 1, none⟩ = some (.int .i64 0) := (blk_cell BK265.out 1).trans rfl
    have hcz13_2 : w10.cell? ⟨gb265, 2, none⟩ = some (.int .i64 0) := (blk_cell BK265.out 2).trans rfl
    have hcz13_3 : w10.cell? ⟨gb265, 3, none⟩ = some (.int .i64 0) := (blk_cell BK265.out 3).trans rfl
    have hcz13_4 : w10.cell? ⟨gb265, 4, none⟩ = some (.slice none 0 0) := (blk_cell BK265.out 4).trans rfl
    have hfz13_0 := blk_frozen BK265.out 0
    have hfz13_1 := blk_frozen BK265.out 1
    have hfz13_2 := blk_frozen BK265.out 2
    have hfz13_3 := blk_frozen BK265.out 3
    have hfz13_4 := blk_frozen BK265.out 4
    go_wp2
    go_meet
    case rel => exact ⟨_, (1), (0), (0), (0), (([] : List Int)), (.slice none 0 0), H', ⟨by first | omega | exact Nat.le_refl _⟩, ⟨by first | exact Kd.R_nil _ _ _ _ _ | exact Kd.N_nil _ _ _ _ _ | exact Kd.V_nil _ _ _ _ _ | exact Kd.Q_nil _ _ _ _ _ | exact Kd.S_nil _ _ _ _ _⟩, ⟨by (with_reducible repeat (first | refine blk_drewN ?_ _ | refine blk_drew ?_ | refine blk_alloc ?_ _)); refine blk_put (cs := #[.int .i64 1, .int .i64 0, .int .i64 0, .int .i64 0, .slice Ao9 y262.length co9]) ?_ 4 _ rfl; (with_reducible repeat (first | refine blk_drewN ?_ _ | refine blk_drew ?_ | refine blk_alloc ?_ _)); refine blk_put (cs := #[.int .i64 1, .int .i64 0, .int .i64 0, .int .i64 5, .slice Ao9 y262.length co9]) ?_ 3 _ rfl; (with_reducible repeat (first | refine blk_drewN ?_ _ | refine blk_drew ?_ | refine blk_alloc ?_ _)); refine blk_put (cs := #[.int .i64 1, .int .i64 0, .int .i64 5, .int .i64 5, .slice Ao9 y262.length co9]) ?_ 2 _ rfl; (with_reducible repeat (first | refine blk_drewN ?_ _ | refine blk_drew ?_ | refine blk_alloc ?_ _)); refine blk_put (cs := #[.int .i64 1, .int .i64 3, .int .i64 5, .int .i64 5, .slice Ao9 y262.length co9]) ?_ 1 _ rfl; (with_reducible repeat (first | refine blk_drewN ?_ _ | refine blk_drew ?_ | refine blk_alloc ?_ _)); refine blk_put (cs := #[.int .i64 6, .int .i64 3, .int .i64 5, .int .i64 5, .slice Ao9 y262.length co9]) ?_ 0 _ rfl; (with_reducible repeat (first | refine blk_drewN ?_ _ | refine blk_drew ?_ | refine blk_alloc ?_ _)); refine blk_put (cs := #[.int .i64 6, .int .i64 3, .int .i64 5, .int .i64 5, .slice none 0 0]) ?_ 4 _ rfl; (with_reducible repeat (first | refine blk_drewN ?_ _ | refine blk_drew ?_ | refine blk_alloc ?_ _)); refine blk_put (cs := #[.int .i64 6, .int .i64 3, .int .i64 5, .int .i64 0, .slice none 0 0]) ?_ 3 _ rfl; (with_reducible repeat (first | refine blk_drewN ?_ _ | refine blk_drew ?_ | refine blk_alloc ?_ _)); refine blk_put (cs := #[.int .i64 6, .int .i64 3, .int .i64 0, .int .i64 0, .slice none 0 0]) ?_ 2 _ rfl; (with_reducible repeat (first | refine blk_drewN ?_ _ | refine blk_drew ?_ | refine blk_alloc ?_ _)); refine blk_put (cs := #[.int .i64 6, .int .i64 0, .int .i64 0, .int .i64 0, .slice none 0 0]) ?_ 1 _ rfl; (with_reducible repeat (first | refine blk_drewN ?_ _ | refine blk_drew ?_ | refine blk_alloc ?_ _)); refine blk_put (cs := #[.int .i64 0, .int .i64 0, .int .i64 0, .int .i64 0, .slice none 0 0]) ?_ 0 _ rfl; (with_reducible repeat (first | refine blk_drewN ?_ _ | refine blk_drew ?_ | refine blk_alloc ?_ _)); exact BK265.out⟩, ⟨by repeat (first | (with_reducible first | exact HB.out | apply below_alloc | apply pw_below_drewN | apply below_drew1 | refine below_set ?_ GE265.out) | exact HB.out)⟩⟩
  case rest =>
   clear HC5
   try clear c1
   try clear p2
   try clear c4
   try clear c7
   try clear c12
   try clear c12b0
   try clear c12b1
   try clear c13
   try clear hcz11_0
   try clear hcz11_1
   try clear hcz11_2
   try clear hcz11_3
   try clear hcz11_4
   try clear hcz13_0
   try clear hcz13_1
   try clear hcz13_2
   try clear hcz13_3
   try clear hcz13_4
   try clear hfz11_0
   try clear hfz11_1
   try clear hfz11_2
   try clear hfz11_3
   try clear hfz11_4
   try clear hfz13_0
   try clear hfz13_1
   try clear hfz13_2
   try clear hfz13_3
   try clear hfz13_4
   obtain ⟨kq, x266000_4, x266001_4, x266002_4, x266003_4, x266004_4, u266004, HA, HJ4, HO_266004, BK265, HB⟩ := hcut
   cases kq with
   | zero => exact absurd HA.out (by simp [hortatorlaw7_RuleLimits.j0])
   | succ kj4 =>
    have H := HA.out
    clear HA
    simp only [hortatorlaw7_RuleLimits.j0] at H
    by_cases c14 : (Go.bits .and .i64 a0 7) = 0
    ·rw [if_pos c14] at H
     have c14b0 : ((Go.bits .and .i64 a0 7) == 0) = true := beq_iff_eq.mpr c14
     have c14b1 : ((Go.bits .and .i64 a0 7) != 0) = false := bne_eq_false_iff_eq.mpr c14
     clear c14
     by_cases c15 : (wrap64 (x266000_4 + (Int.tmod a1 4))) ≥ 1
     ·rw [if_pos c15] at H
      have c15b0 : decide (1 ≤ (wrap64 (x266000_4 + (Int.tmod a1 4)))) = true := decide_eq_true c15
      clear c15
      replace H := Option.bind_eq_some_iff.mp H
      obtain ⟨t266, A160, H⟩ := H
      have A16 := Aside0.mk A160
      clear A160
      by_cases c17 : (t266 == (decide ((wrap64 (x266000_4 + (Int.tmod a1 4))) ≤ 6))) = true
      ·rw [if_pos c17] at H
       have c17b0 : (t266 == (decide ((wrap64 (x266000_4 + (Int.tmod a1 4))) ≤ 6))) = true := c17
       (try (have c17b1 : decide (t266 = (decide ((wrap64 (x266000_4 + (Int.tmod a1 4))) ≤ 6))) = true := by simpa using c17))
       (try (have c17b2 : (t266 == (decide ((wrap64 (x266000_4 + (Int.tmod a1 4))) ≤ 6))) = true := by simpa using c17))
       clear c17
       replace H := Option.bind_eq_some_iff.mp H
       obtain ⟨t267, A180, H⟩ := H
       have A18 := Aside0.mk A180
       clear A180
       obtain rfl := Option.some.inj H
       have hcz19_0 : wc.cell? ⟨gb265, 0, none⟩ = some (.int .i64 x266000_4) := (blk_cell BK265.out 0).trans rfl
       have hcz19_1 : wc.cell? ⟨gb265, 1, none⟩ = some (.int .i64 x266001_4) := (blk_cell BK265.out 1).trans rfl
       have hcz19_2 : wc.cell? ⟨gb265, 2, none⟩ = some (.int .i64 x266002_4) := (blk_cell BK265.out 2).trans rfl
       have hcz19_3 : wc.cell? ⟨gb265, 3, none⟩ = some (.int .i64 x266003_4) := (blk_cell BK265.out 3).trans rfl
       have hcz19_4 : wc.cell? ⟨gb265, 4, none⟩ = some (u266004) := (blk_cell BK265.out 4).trans rfl
       have hfz19_0 := blk_frozen BK265.out 0
       have hfz19_1 := blk_frozen BK265.out 1
       have hfz19_2 := blk_frozen BK265.out 2
       have hfz19_3 := blk_frozen BK265.out 3
       have hfz19_4 := blk_frozen BK265.out 4
       obtain ⟨Ao20, co20, eo20⟩ := Kd.R_slice HO_266004.out
       subst eo20
       go_wp2_with (first | ((with_reducible refine gate_callee (f := 16) rfl ?_); refine goesL_ (some 113) rfl rfl Tryz.func16 (by kernel_rfl) rfl #[.agg #[.int .i64 (wrap64 (x266000_4 + (Int.tmod a1 4))), .int .i64 x266001_4, .int .i64 x266002_4, .int .i64 x266003_4, .slice Ao20 x266004_4.length co20]] rfl (by (try simp only [List.map_toArray, List.map_cons, List.map_nil]); first | done | rfl | (simp only [List.length_drop, List.length_take]; rfl)) ?_; (with_reducible refine (rule_Config.calls (wrap64 (x266000_4 + (Int.tmod a1 4))) x266001_4 x266002_4 x266003_4 _ _ x266004_4 t266 _ ?side1 ?side2 A16.out).mono ?_); (case side1 => refine (Kd.R_reads' (e := 3) (base := w.heap.size) (ok := fun k_ => True) (n := x266004_4.length) (c := co20) ?_).2.2; exact (by (with_reducible repeat (first | apply Kd.R_alloc | apply Kd.R_drewN | apply Kd.R_drew)); exact (Kd.R_mono (Kd.R_far (p := ⟨gb265, 0, none⟩) (Kd.R_types HO_266004.out BK265.out (by decide)) (fun _ hk => hk.2) (.int .i64 (wrap64 (x266000_4 + (Int.tmod a1 4))))) (fun _ h_ => h_.1)))); (case side2 => exact (Kd.R_reads' HO_266004.out).2.1); rintro e w21 ⟨rfl, hb⟩; refine ⟨_, rfl, ?_⟩; have n0_ := Aside0.mk (Kd.R_below (by (with_reducible repeat (first | apply Kd.R_alloc | apply Kd.R_drewN | apply Kd.R_drew)); exact (Kd.R_mono (Kd.R_far (p := ⟨gb265, 0, none⟩) (Kd.R_types HO_266004.out BK265.out (by decide)) (fun _ hk => hk.2) (.int .i64 (wrap64 (x266000_4 + (Int.tmod a1 4))))) (fun _ h_ => h_.1))) hb); have n1_ := Aside0.mk (blk_below (g := gb265) (o := .cells #[.int .i64 (wrap64 (x266000_4 + (Int.tmod a1 4))), .int .i64 x266001_4, .int .i64 x266002_4, .int .i64 x266003_4, .slice Ao20 x266004_4.length co20] 24 (0, 0)) (by (with_reducible repeat (first | refine blk_drewN ?_ _ | refine blk_drew ?_ | refine blk_alloc ?_ _)); refine blk_put (cs := #[.int .i64 x266000_4, .int .i64 x266001_4, .int .i64 x266002_4, .int .i64 x266003_4, .slice Ao20 x266004_4.length co20]) ?_ 0 _ rfl; (with_reducible repeat (first | refine blk_drewN ?_ _ | refine blk_drew ?_ | refine blk_alloc ?_ _)); exact BK265.out) hb); have n2_ := Aside0.mk (below_step (by repeat (first | (with_reducible first | exact HB.out | apply below_alloc | apply pw_below_drewN | apply below_drew1 | refine below_set ?_ GE265.out) | exact HB.out)) hb); clear HO_266004; clear BK265; clear HB; have HO_266004 := n0_; have BK265 := n1_; have HB := n2_; clear n0_ n1_ n2_; (try clear hb); (try clear hb2); (try clear hk); (try clear hi); have hcz22_0 : w21.cell? ⟨gb265, 0, none⟩ = some (.int .i64 (wrap64 (x266000_4 + (Int.tmod a1 4)))) := (blk_cell BK265.out 0).trans rfl; have hcz22_1 : w21.cell? ⟨gb265, 1, none⟩ = some (.int .i64 x266001_4) := (blk_cell BK265.out 1).trans rfl; have hcz22_2 : w21.cell? ⟨gb265, 2, none⟩ = some (.int .i64 x266002_4) := (blk_cell BK265.out 2).trans rfl; have hcz22_3 : w21.cell? ⟨gb265, 3, none⟩ = some (.int .i64 x266003_4) := (blk_cell BK265.out 3).trans rfl; have hcz22_4 : w21.cell? ⟨gb265, 4, none⟩ = some (.slice Ao20 x266004_4.length co20) := (blk_cell BK265.out 4).trans rfl; have hfz22_0 := blk_frozen BK265.out 0; have hfz22_1 := blk_frozen BK265.out 1; have hfz22_2 := blk_frozen BK265.out 2; have hfz22_3 := blk_frozen BK265.out 3; have hfz22_4 := blk_frozen BK265.out 4) | (go_at_call 28; (with_reducible refine (note_PutConfig.calls kj4 (wrap64 (x266000_4 + (Int.tmod a1 4))) x266001_4 x266002_4 x266003_4 _ _ x266004_4 t267 _ ?side1 ?side2 A18.out).mono ?_); (case side1 => repeat (first | exact (Kd.R_reads' HO_266004.out).2.2 | (with_reducible refine Kd.C_alloc ?_ _) | (with_reducible refine Kd.C_drewN ?_ _) | (with_reducible refine Kd.C_drew ?_))); (case side2 => exact (Kd.R_reads' HO_266004.out).2.1); rintro e w23 ⟨rfl, hb⟩; have n0_ := Aside0.mk (Kd.R_below (by (with_reducible repeat (first | apply Kd.R_alloc | apply Kd.R_drewN | apply Kd.R_drew)); exact HO_266004.out) hb); have n1_ := Aside0.mk (blk_below (g := gb265) (o := .cells #[.int .i64 (wrap64 (x266000_4 + (Int.tmod a1 4))), .int .i64 x266001_4, .int .i64 x266002_4, .int .i64 x266003_4, .slice Ao20 x266004_4.length co20] 24 (0, 0)) (by (with_reducible repeat (first | refine blk_drewN ?_ _ | refine blk_drew ?_ | refine blk_alloc ?_ _)); exact BK265.out) hb); have n2_ := Aside0.mk (below_step (by repeat (first | (with_reducible first | exact HB.out | apply below_alloc | apply pw_below_drewN | apply below_drew1 | refine below_set ?_ GE265.out) | exact HB.out)) hb); clear HO_266004; clear BK265; clear HB; have HO_266004 := n0_; have BK265 := n1_; have HB := n2_; clear n0_ n1_ n2_; (try clear hb); (try clear hb2); (try clear hk); (try clear hi)))
       go_ret
       exact ⟨by first | rfl | exact nil_eq1 _ _ | exact nil_eq2 _ | exact nil_eq3 _ | (simp [errW_none, errW_some] <;> rfl) | (simp [*, errW_none, errW_some] <;> rfl), by repeat (first | (with_reducible first | exact HB.out | apply below_alloc | apply pw_below_drewN | apply below_drew1 | refine below_set ?_ GE265.out) | exact HB.out)⟩
      ·rw [if_neg c17] at H
       exact absurd H (by simp)
     ·rw [if_neg c15] at H
      have c15b0 : decide (1 ≤ (wrap64 (x266000_4 + (Int.tmod a1 4)))) = false := decide_eq_false c15
      clear c15
      replace H := Option.bind_eq_some_iff.mp H
      obtain ⟨t268, A240, H⟩ := H
      have A24 := Aside0.mk A240
      clear A240
      by_cases c25 : (t268 == false) = true
      ·rw [if_pos c25] at H
       have c25b0 : (t268 == false) = true := c25
       (try (have c25b1 : decide (t268 = false) = true := by simpa using c25))
       (try (have c25b2 : (t268 == false) = true := by simpa using c25))
       clear c25
       replace H := Option.bind_eq_some_iff.mp H
       obtain ⟨t269, A260, H⟩ := H
       have A26 := Aside0.mk A260
       clear A260
       obtain rfl := Option.some.inj H
       have hcz27_0 : wc.cell? ⟨gb265, 0, none⟩ = some (.int .i64 x266000_4) := (blk_cell BK265.out 0).trans rfl
       have hcz27_1 : wc.cell? ⟨gb265, 1, none⟩ = some (.int .i64 x266001_4) := (blk_cell BK265.out 1).trans rfl
       have hcz27_2 : wc.cell? ⟨gb265, 2, none⟩ = some (.int .i64 x266002_4) := (blk_cell BK265.out 2).trans rfl
       have hcz27_3 : wc.cell? ⟨gb265, 3, none⟩ = some (.int .i64 x266003_4) := (blk_cell BK265.out 3).trans rfl
       have hcz27_4 : wc.cell? ⟨gb265, 4, none⟩ = some (u266004) := (blk_cell BK265.out 4).trans rfl
       have hfz27_0 := blk_frozen BK265.out 0
       have hfz27_1 := blk_frozen BK265.out 1
       have hfz27_2 := blk_frozen BK265.out 2
       have hfz27_3 := blk_frozen BK265.out 3
       have hfz27_4 := blk_frozen BK265.out 4
       obtain ⟨Ao28, co28, eo28⟩ := Kd.R_slice HO_266004.out
       subst eo28
       go_wp2_with (first | ((with_reducible refine gate_callee (f := 16) rfl ?_); refine goesL_ (some 113) rfl rfl Tryz.func16 (by kernel_rfl) rfl #[.agg #[.int .i64 (wrap64 (x266000_4 + (Int.tmod a1 4))), .int .i64 x266001_4, .int .i64 x266002_4, .int .i64 x266003_4, .slice Ao28 x266004_4.length co28]] rfl (by (try simp only [List.map_toArray, List.map_cons, List.map_nil]); first | done | rfl | (simp only [List.length_drop, List.length_take]; rfl)) ?_; (with_reducible refine (rule_Config.calls (wrap64 (x266000_4 + (Int.tmod a1 4))) x266001_4 x266002_4 x266003_4 _ _ x266004_4 t268 _ ?side1 ?side2 A24.out).mono ?_); (case side1 => refine (Kd.R_reads' (e := 3) (base := w.heap.size) (ok := fun k_ => True) (n := x266004_4.length) (c := co28) ?_).2.2; exact (by (with_reducible repeat (first | apply Kd.R_alloc | apply Kd.R_drewN | apply Kd.R_drew)); exact (Kd.R_mono (Kd.R_far (p := ⟨gb265, 0, none⟩) (Kd.R_types HO_266004.out BK265.out (by decide)) (fun _ hk => hk.2) (.int .i64 (wrap64 (x266000_4 + (Int.tmod a1 4))))) (fun _ h_ => h_.1)))); (case side2 => exact (Kd.R_reads' HO_266004.out).2.1); rintro e w29 ⟨rfl, hb⟩; refine ⟨_, rfl, ?_⟩; have n0_ := Aside0.mk (Kd.R_below (by (with_reducible repeat (first | apply Kd.R_alloc | apply Kd.R_drewN | apply Kd.R_drew)); exact (Kd.R_mono (Kd.R_far (p := ⟨gb265, 0, none⟩) (Kd.R_types HO_266004.out BK265.out (by decide)) (fun _ hk => hk.2) (.int .i64 (wrap64 (x266000_4 + (Int.tmod a1 4))))) (fun _ h_ => h_.1))) hb); have n1_ := Aside0.mk (blk_below (g := gb265) (o := .cells #[.int .i64 (wrap64 (x266000_4 + (Int.tmod a1 4))), .int .i64 x266001_4, .int .i64 x266002_4, .int .i64 x266003_4, .slice Ao28 x266004_4.length co28] 24 (0, 0)) (by (with_reducible repeat (first | refine blk_drewN ?_ _ | refine blk_drew ?_ | refine blk_alloc ?_ _)); refine blk_put (cs := #[.int .i64 x266000_4, .int .i64 x266001_4, .int .i64 x266002_4, .int .i64 x266003_4, .slice Ao28 x266004_4.length co28]) ?_ 0 _ rfl; (with_reducible repeat (first | refine blk_drewN ?_ _ | refine blk_drew ?_ | refine blk_alloc ?_ _)); exact BK265.out) hb); have n2_ := Aside0.mk (below_step (by repeat (first | (with_reducible first | exact HB.out | apply below_alloc | apply pw_below_drewN | apply below_drew1 | refine below_set ?_ GE265.out) | exact HB.out)) hb); clear HO_266004; clear BK265; clear HB; have HO_266004 := n0_; have BK265 := n1_; have HB := n2_; clear n0_ n1_ n2_; (try clear hb); (try clear hb2); (try clear hk); (try clear hi); have hcz30_0 : w29.cell? ⟨gb265, 0, none⟩ = some (.int .i64 (wrap64 (x266000_4 + (Int.tmod a1 4)))) := (blk_cell BK265.out 0).trans rfl; have hcz30_1 : w29.cell? ⟨gb265, 1, none⟩ = some (.int .i64 x266001_4) := (blk_cell BK265.out 1).trans rfl; have hcz30_2 : w29.cell? ⟨gb265, 2, none⟩ = some (.int .i64 x266002_4) := (blk_cell BK265.out 2).trans rfl; have hcz30_3 : w29.cell? ⟨gb265, 3, none⟩ = some (.int .i64 x266003_4) := (blk_cell BK265.out 3).trans rfl; have hcz30_4 : w29.cell? ⟨gb265, 4, none⟩ = some (.slice Ao28 x266004_4.length co28) := (blk_cell BK265.out 4).trans rfl; have hfz30_0 := blk_frozen BK265.out 0; have hfz30_1 := blk_frozen BK265.out 1; have hfz30_2 := blk_frozen BK265.out 2; have hfz30_3 := blk_frozen BK265.out 3; have hfz30_4 := blk_frozen BK265.out 4) | (go_at_call 28; (with_reducible refine (note_PutConfig.calls kj4 (wrap64 (x266000_4 + (Int.tmod a1 4))) x266001_4 x266002_4 x266003_4 _ _ x266004_4 t269 _ ?side1 ?side2 A26.out).mono ?_); (case side1 => repeat (first | exact (Kd.R_reads' HO_266004.out).2.2 | (with_reducible refine Kd.C_alloc ?_ _) | (with_reducible refine Kd.C_drewN ?_ _) | (with_reducible refine Kd.C_drew ?_))); (case side2 => exact (Kd.R_reads' HO_266004.out).2.1); rintro e w31 ⟨rfl, hb⟩; have n0_ := Aside0.mk (Kd.R_below (by (with_reducible repeat (first | apply Kd.R_alloc | apply Kd.R_drewN | apply Kd.R_drew)); exact HO_266004.out) hb); have n1_ := Aside0.mk (blk_below (g := gb265) (o := .cells #[.int .i64 (wrap64 (x266000_4 + (Int.tmod a1 4))), .int .i64 x266001_4, .int .i64 x266002_4, .int .i64 x266003_4, .slice Ao28 x266004_4.length co28] 24 (0, 0)) (by (with_reducible repeat (first | refine blk_drewN ?_ _ | refine blk_drew ?_ | refine blk_alloc ?_ _)); exact BK265.out) hb); have n2_ := Aside0.mk (below_step (by repeat (first | (with_reducible first | exact HB.out | apply below_alloc | apply pw_below_drewN | apply below_drew1 | refine below_set ?_ GE265.out) | exact HB.out)) hb); clear HO_266004; clear BK265; clear HB; have HO_266004 := n0_; have BK265 := n1_; have HB := n2_; clear n0_ n1_ n2_; (try clear hb); (try clear hb2); (try clear hk); (try clear hi)))
       go_ret
       exact ⟨by first | rfl | exact nil_eq1 _ _ | exact nil_eq2 _ | exact nil_eq3 _ | (simp [errW_none, errW_some] <;> rfl) | (simp [*, errW_none, errW_some] <;> rfl), by repeat (first | (with_reducible first | exact HB.out | apply below_alloc | apply pw_below_drewN | apply below_drew1 | refine below_set ?_ GE265.out) | exact HB.out)⟩
      ·rw [if_neg c25] at H
       exact absurd H (by simp)
    ·rw [if_neg c14] at H
     have c14b0 : ((Go.bits .and .i64 a0 7) == 0) = false := beq_eq_false_iff_ne.mpr c14
     have c14b1 : ((Go.bits .and .i64 a0 7) != 0) = true := bne_iff_ne.mpr c14
     by_cases c32 : (Go.bits .and .i64 a0 7) = 1
     ·rw [if_pos c32] at H
      have c32b0 : ((Go.bits .and .i64 a0 7) == 1) = true := beq_iff_eq.mpr c32
      have c32b1 : ((Go.bits .and .i64 a0 7) != 1) = false := bne_eq_false_iff_eq.mpr c32
      clear c32
      by_cases c33 : (wrap64 (x266001_4 + (Int.tmod a1 4))) ≥ 0
      ·rw [if_pos c33] at H
       have c33b0 : decide (0 ≤ (wrap64 (x266001_4 + (Int.tmod a1 4)))) = true := decide_eq_true c33
       clear c33
       by_cases c34 : (wrap64 (x266001_4 + (Int.tmod a1 4))) ≤ 3
       ·rw [if_pos c34] at H
        have c34b0 : decide ((wrap64 (x266001_4 + (Int.tmod a1 4))) ≤ 3) = true := decide_eq_true c34
        clear c34
        by_cases c35 : (x266004_4.length : Int) = 0
        ·rw [if_pos c35] at H
         have c35b0 : ((x266004_4.length : Int) == 0) = true := beq_iff_eq.mpr c35
         have c35b1 : ((x266004_4.length : Int) != 0) = false := bne_eq_false_iff_eq.mpr c35
         clear c35
         replace H := Option.bind_eq_some_iff.mp H
         obtain ⟨t270, A360, H⟩ := H
         have A36 := Aside0.mk A360
         clear A360
         by_cases c37 : (t270 == true) = true
         ·rw [if_pos c37] at H
          have c37b0 : (t270 == true) = true := c37
          (try (have c37b1 : decide (t270 = true) = true := by simpa using c37))
          (try (have c37b2 : (t270 == true) = true := by simpa using c37))
          clear c37
          replace H := Option.bind_eq_some_iff.mp H
          obtain ⟨t271, A380, H⟩ := H
          have A38 := Aside0.mk A380
          clear A380
          obtain rfl := Option.some.inj H
          have hcz39_0 : wc.cell? ⟨gb265, 0, none⟩ = some (.int .i64 x266000_4) := (blk_cell BK265.out 0).trans rfl
          have hcz39_1 : wc.cell? ⟨gb265, 1, none⟩ = some (.int .i64 x266001_4) := (blk_cell BK265.out 1).trans rfl
          have hcz39_2 : wc.cell? ⟨gb265, 2, none⟩ = some (.int .i64 x266002_4) := (blk_cell BK265.out 2).trans rfl
          have hcz39_3 : wc.cell? ⟨gb265, 3, none⟩ = some (.int .i64 x266003_4) := (blk_cell BK265.out 3).trans rfl
          have hcz39_4 : wc.cell? ⟨gb265, 4, none⟩ = some (u266004) := (blk_cell BK265.out 4).trans rfl
          have hfz39_0 := blk_frozen BK265.out 0
          have hfz39_1 := blk_frozen BK265.out 1
          have hfz39_2 := blk_frozen BK265.out 2
          have hfz39_3 := blk_frozen BK265.out 3
          have hfz39_4 := blk_frozen BK265.out 4
          obtain ⟨Ao40, co40, eo40⟩ := Kd.R_slice HO_266004.out
          subst eo40
          go_wp2_with (first | ((with_reducible refine gate_callee (f := 16) rfl ?_); refine goesL_ (some 113) rfl rfl Tryz.func16 (by kernel_rfl) rfl #[.agg #[.int .i64 x266000_4, .int .i64 (wrap64 (x266001_4 + (Int.tmod a1 4))), .int .i64 x266002_4, .int .i64 x266003_4, .slice Ao40 x266004_4.length co40]] rfl (by (try simp only [List.map_toArray, List.map_cons, List.map_nil]); first | done | rfl | (simp only [List.length_drop, List.length_take]; rfl)) ?_; (with_reducible refine (rule_Config.calls x266000_4 (wrap64 (x266001_4 + (Int.tmod a1 4))) x266002_4 x266003_4 _ _ x266004_4 t270 _ ?side1 ?side2 A36.out).mono ?_); (case side1 => refine (Kd.R_reads' (e := 3) (base := w.heap.size) (ok := fun k_ => True) (n := x266004_4.length) (c := co40) ?_).2.2; exact (by (with_reducible repeat (first | apply Kd.R_alloc | apply Kd.R_drewN | apply Kd.R_drew)); exact (Kd.R_mono (Kd.R_far (p := ⟨gb265, 1, none⟩) (Kd.R_types HO_266004.out BK265.out (by decide)) (fun _ hk => hk.2) (.int .i64 (wrap64 (x266001_4 + (Int.tmod a1 4))))) (fun _ h_ => h_.1)))); (case side2 => exact (Kd.R_reads' HO_266004.out).2.1); rintro e w41 ⟨rfl, hb⟩; refine ⟨_, rfl, ?_⟩; have n0_ := Aside0.mk (Kd.R_below (by (with_reducible repeat (first | apply Kd.R_alloc | apply Kd.R_drewN | apply Kd.R_drew)); exact (Kd.R_mono (Kd.R_far (p := ⟨gb265, 1, none⟩) (Kd.R_types HO_266004.out BK265.out (by decide)) (fun _ hk => hk.2) (.int .i64 (wrap64 (x266001_4 + (Int.tmod a1 4))))) (fun _ h_ => h_.1))) hb); have n1_ := Aside0.mk (blk_below (g := gb265) (o := .cells #[.int .i64 x266000_4, .int .i64 (wrap64 (x266001_4 + (Int.tmod a1 4))), .int .i64 x266002_4, .int .i64 x266003_4, .slice Ao40 x266004_4.length co40] 24 (0, 0)) (by (with_reducible repeat (first | refine blk_drewN ?_ _ | refine blk_drew ?_ | refine blk_alloc ?_ _)); refine blk_put (cs := #[.int .i64 x266000_4, .int .i64 x266001_4, .int .i64 x266002_4, .int .i64 x266003_4, .slice Ao40 x266004_4.length co40]) ?_ 1 _ rfl; (with_reducible repeat (first | refine blk_drewN ?_ _ | refine blk_drew ?_ | refine blk_alloc ?_ _)); exact BK265.out) hb); have n2_ := Aside0.mk (below_step (by repeat (first | (with_reducible first | exact HB.out | apply below_alloc | apply pw_below_drewN | apply below_drew1 | refine below_set ?_ GE265.out) | exact HB.out)) hb); clear HO_266004; clear BK265; clear HB; have HO_266004 := n0_; have BK265 := n1_; have HB := n2_; clear n0_ n1_ n2_; (try clear hb); (try clear hb2); (try clear hk); (try clear hi); have hcz42_0 : w41.cell? ⟨gb265, 0, none⟩ = some (.int .i64 x266000_4) := (blk_cell BK265.out 0).trans rfl; have hcz42_1 : w41.cell? ⟨gb265, 1, none⟩ = some (.int .i64 (wrap64 (x266001_4 + (Int.tmod a1 4)))) := (blk_cell BK265.out 1).trans rfl; have hcz42_2 : w41.cell? ⟨gb265, 2, none⟩ = some (.int .i64 x266002_4) := (blk_cell BK265.out 2).trans rfl; have hcz42_3 : w41.cell? ⟨gb265, 3, none⟩ = some (.int .i64 x266003_4) := (blk_cell BK265.out 3).trans rfl; have hcz42_4 : w41.cell? ⟨gb265, 4, none⟩ = some (.slice Ao40 x266004_4.length co40) := (blk_cell BK265.out 4).trans rfl; have hfz42_0 := blk_frozen BK265.out 0; have hfz42_1 := blk_frozen BK265.out 1; have hfz42_2 := blk_frozen BK265.out 2; have hfz42_3 := blk_frozen BK265.out 3; have hfz42_4 := blk_frozen BK265.out 4) | (go_at_call 28; (with_reducible refine (note_PutConfig.calls kj4 x266000_4 (wrap64 (x266001_4 + (Int.tmod a1 4))) x266002_4 x266003_4 _ _ x266004_4 t271 _ ?side1 ?side2 A38.out).mono ?_); (case side1 => repeat (first | exact (Kd.R_reads' HO_266004.out).2.2 | (with_reducible refine Kd.C_alloc ?_ _) | (with_reducible refine Kd.C_drewN ?_ _) | (with_reducible refine Kd.C_drew ?_))); (case side2 => exact (Kd.R_reads' HO_266004.out).2.1); rintro e w43 ⟨rfl, hb⟩; have n0_ := Aside0.mk (Kd.R_below (by (with_reducible repeat (first | apply Kd.R_alloc | apply Kd.R_drewN | apply Kd.R_drew)); exact HO_266004.out) hb); have n1_ := Aside0.mk (blk_below (g := gb265) (o := .cells #[.int .i64 x266000_4, .int .i64 (wrap64 (x266001_4 + (Int.tmod a1 4))), .int .i64 x266002_4, .int .i64 x266003_4, .slice Ao40 x266004_4.length co40] 24 (0, 0)) (by (with_reducible repeat (first | refine blk_drewN ?_ _ | refine blk_drew ?_ | refine blk_alloc ?_ _)); exact BK265.out) hb); have n2_ := Aside0.mk (below_step (by repeat (first | (with_reducible first | exact HB.out | apply below_alloc | apply pw_below_drewN | apply below_drew1 | refine below_set ?_ GE265.out) | exact HB.out)) hb); clear HO_266004; clear BK265; clear HB; have HO_266004 := n0_; have BK265 := n1_; have HB := n2_; clear n0_ n1_ n2_; (try clear hb); (try clear hb2); (try clear hk); (try clear hi)))
          go_ret
          exact ⟨by first | rfl | exact nil_eq1 _ _ | exact nil_eq2 _ | exact nil_eq3 _ | (simp [errW_none, errW_some] <;> rfl) | (simp [*, errW_none, errW_some] <;> rfl), by repeat (first | (with_reducible first | exact HB.out | apply below_alloc | apply pw_below_drewN | apply below_drew1 | refine below_set ?_ GE265.out) | exact HB.out)⟩
         ·rw [if_neg c37] at H
          exact absurd H (by simp)
        ·rw [if_neg c35] at H
         have c35b0 : ((x266004_4.length : Int) == 0) = false := beq_eq_false_iff_ne.mpr c35
         have c35b1 : ((x266004_4.length : Int) != 0) = true := bne_iff_ne.mpr c35
         have c35b2 : ¬ (x266004_4 = []) := fun h_ => c35 (by rw [h_]; rfl)
         replace H := Option.bind_eq_some_iff.mp H
         obtain ⟨t272, A440, H⟩ := H
         have A44 := Aside0.mk A440
         clear A440
         by_cases c45 : (t272 == (decide ((wrap64 (x266001_4 + (Int.tmod a1 4))) ≥ 3))) = true
         ·rw [if_pos c45] at H
          have c45b0 : (t272 == (decide ((wrap64 (x266001_4 + (Int.tmod a1 4))) ≥ 3))) = true := c45
          (try (have c45b1 : decide (t272 = (decide ((wrap64 (x266001_4 + (Int.tmod a1 4))) ≥ 3))) = true := by simpa using c45))
          (try (have c45b2 : (t272 == (decide ((wrap64 (x266001_4 + (Int.tmod a1 4))) ≥ 3))) = true := by simpa using c45))
          clear c45
          replace H := Option.bind_eq_some_iff.mp H
          obtain ⟨t273, A460, H⟩ := H
          have A46 := Aside0.mk A460
          clear A460
          obtain rfl := Option.some.inj H
          have hcz47_0 : wc.cell? ⟨gb265, 0, none⟩ = some (.int .i64 x266000_4) := (blk_cell BK265.out 0).trans rfl
          have hcz47_1 : wc.cell? ⟨gb265, 1, none⟩ = some (.int .i64 x266001_4) := (blk_cell BK265.out 1).trans rfl
          have hcz47_2 : wc.cell? ⟨gb265, 2, none⟩ = some (.int .i64 x266002_4) := (blk_cell BK265.out 2).trans rfl
          have hcz47_3 : wc.cell? ⟨gb265, 3, none⟩ = some (.int .i64 x266003_4) := (blk_cell BK265.out 3).trans rfl
          have hcz47_4 : wc.cell? ⟨gb265, 4, none⟩ = some (u266004) := (blk_cell BK265.out 4).trans rfl
          have hfz47_0 := blk_frozen BK265.out 0
          have hfz47_1 := blk_frozen BK265.out 1
          have hfz47_2 := blk_frozen BK265.out 2
          have hfz47_3 := blk_frozen BK265.out 3
          have hfz47_4 := blk_frozen BK265.out 4
          obtain ⟨Ao48, co48, eo48⟩ := Kd.R_slice HO_266004.out
          subst eo48
          go_wp2_with (first | ((with_reducible refine gate_callee (f := 16) rfl ?_); refine goesL_ (some 113) rfl rfl Tryz.func16 (by kernel_rfl) rfl #[.agg #[.int .i64 x266000_4, .int .i64 (wrap64 (x266001_4 + (Int.tmod a1 4))), .int .i64 x266002_4, .int .i64 x266003_4, .slice Ao48 x266004_4.length co48]] rfl (by (try simp only [List.map_toArray, List.map_cons, List.map_nil]); first | done | rfl | (simp only [List.length_drop, List.length_take]; rfl)) ?_; (with_reducible refine (rule_Config.calls x266000_4 (wrap64 (x266001_4 + (Int.tmod a1 4))) x266002_4 x266003_4 _ _ x266004_4 t272 _ ?side1 ?side2 A44.out).mono ?_); (case side1 => refine (Kd.R_reads' (e := 3) (base := w.heap.size) (ok := fun k_ => True) (n := x266004_4.length) (c := co48) ?_).2.2; exact (by (with_reducible repeat (first | apply Kd.R_alloc | apply Kd.R_drewN | apply Kd.R_drew)); exact (Kd.R_mono (Kd.R_far (p := ⟨gb265, 1, none⟩) (Kd.R_types HO_266004.out BK265.out (by decide)) (fun _ hk => hk.2) (.int .i64 (wrap64 (x266001_4 + (Int.tmod a1 4))))) (fun _ h_ => h_.1)))); (case side2 => exact (Kd.R_reads' HO_266004.out).2.1); rintro e w49 ⟨rfl, hb⟩; refine ⟨_, rfl, ?_⟩; have n0_ := Aside0.mk (Kd.R_below (by (with_reducible repeat (first | apply Kd.R_alloc | apply Kd.R_drewN | apply Kd.R_drew)); exact (Kd.R_mono (Kd.R_far (p := ⟨gb265, 1, none⟩) (Kd.R_types HO_266004.out BK265.out (by decide)) (fun _ hk => hk.2) (.int .i64 (wrap64 (x266001_4 + (Int.tmod a1 4))))) (fun _ h_ => h_.1))) hb); have n1_ := Aside0.mk (blk_below (g := gb265) (o := .cells #[.int .i64 x266000_4, .int .i64 (wrap64 (x266001_4 + (Int.tmod a1 4))), .int .i64 x266002_4, .int .i64 x266003_4, .slice Ao48 x266004_4.length co48] 24 (0, 0)) (by (with_reducible repeat (first | refine blk_drewN ?_ _ | refine blk_drew ?_ | refine blk_alloc ?_ _)); refine blk_put (cs := #[.int .i64 x266000_4, .int .i64 x266001_4, .int .i64 x266002_4, .int .i64 x266003_4, .slice Ao48 x266004_4.length co48]) ?_ 1 _ rfl; (with_reducible repeat (first | refine blk_drewN ?_ _ | refine blk_drew ?_ | refine blk_alloc ?_ _)); exact BK265.out) hb); have n2_ := Aside0.mk (below_step (by repeat (first | (with_reducible first | exact HB.out | apply below_alloc | apply pw_below_drewN | apply below_drew1 | refine below_set ?_ GE265.out) | exact HB.out)) hb); clear HO_266004; clear BK265; clear HB; have HO_266004 := n0_; have BK265 := n1_; have HB := n2_; clear n0_ n1_ n2_; (try clear hb); (try clear hb2); (try clear hk); (try clear hi); have hcz50_0 : w49.cell? ⟨gb265, 0, none⟩ = some (.int .i64 x266000_4) := (blk_cell BK265.out 0).trans rfl; have hcz50_1 : w49.cell? ⟨gb265, 1, none⟩ = some (.int .i64 (wrap64 (x266001_4 + (Int.tmod a1 4)))) := (blk_cell BK265.out 1).trans rfl; have hcz50_2 : w49.cell? ⟨gb265, 2, none⟩ = some (.int .i64 x266002_4) := (blk_cell BK265.out 2).trans rfl; have hcz50_3 : w49.cell? ⟨gb265, 3, none⟩ = some (.int .i64 x266003_4) := (blk_cell BK265.out 3).trans rfl; have hcz50_4 : w49.cell? ⟨gb265, 4, none⟩ = some (.slice Ao48 x266004_4.length co48) := (blk_cell BK265.out 4).trans rfl; have hfz50_0 := blk_frozen BK265.out 0; have hfz50_1 := blk_frozen BK265.out 1; have hfz50_2 := blk_frozen BK265.out 2; have hfz50_3 := blk_frozen BK265.out 3; have hfz50_4 := blk_frozen BK265.out 4) | (go_at_call 28; (with_reducible refine (note_PutConfig.calls kj4 x266000_4 (wrap64 (x266001_4 + (Int.tmod a1 4))) x266002_4 x266003_4 _ _ x266004_4 t273 _ ?side1 ?side2 A46.out).mono ?_); (case side1 => repeat (first | exact (Kd.R_reads' HO_266004.out).2.2 | (with_reducible refine Kd.C_alloc ?_ _) | (with_reducible refine Kd.C_drewN ?_ _) | (with_reducible refine Kd.C_drew ?_))); (case side2 => exact (Kd.R_reads' HO_266004.out).2.1); rintro e w51 ⟨rfl, hb⟩; have n0_ := Aside0.mk (Kd.R_below (by (with_reducible repeat (first | apply Kd.R_alloc | apply Kd.R_drewN | apply Kd.R_drew)); exact HO_266004.out) hb); have n1_ := Aside0.mk (blk_below (g := gb265) (o := .cells #[.int .i64 x266000_4, .int .i64 (wrap64 (x266001_4 + (Int.tmod a1 4))), .int .i64 x266002_4, .int .i64 x266003_4, .slice Ao48 x266004_4.length co48] 24 (0, 0)) (by (with_reducible repeat (first | refine blk_drewN ?_ _ | refine blk_drew ?_ | refine blk_alloc ?_ _)); exact BK265.out) hb); have n2_ := Aside0.mk (below_step (by repeat (first | (with_reducible first | exact HB.out | apply below_alloc | apply pw_below_drewN | apply below_drew1 | refine below_set ?_ GE265.out) | exact HB.out)) hb); clear HO_266004; clear BK265; clear HB; have HO_266004 := n0_; have BK265 := n1_; have HB := n2_; clear n0_ n1_ n2_; (try clear hb); (try clear hb2); (try clear hk); (try clear hi)))
          go_ret
          exact ⟨by first | rfl | exact nil_eq1 _ _ | exact nil_eq2 _ | exact nil_eq3 _ | (simp [errW_none, errW_some] <;> rfl) | (simp [*, errW_none, errW_some] <;> rfl), by repeat (first | (with_reducible first | exact HB.out | apply below_alloc | apply pw_below_drewN | apply below_drew1 | refine below_set ?_ GE265.out) | exact HB.out)⟩
         ·rw [if_neg c45] at H
          exact absurd H (by simp)
       ·rw [if_neg c34] at H
        have c34b0 : decide ((wrap64 (x266001_4 + (Int.tmod a1 4))) ≤ 3) = false := decide_eq_false c34
        clear c34
        replace H := Option.bind_eq_some_iff.mp H
        obtain ⟨t274, A520, H⟩ := H
        have A52 := Aside0.mk A520
        clear A520
        by_cases c53 : (t274 == false) = true
        ·rw [if_pos c53] at H
         have c53b0 : (t274 == false) = true := c53
         (try (have c53b1 : decide (t274 = false) = true := by simpa using c53))
         (try (have c53b2 : (t274 == false) = true := by simpa using c53))
         clear c53
         replace H := Option.bind_eq_some_iff.mp H
         obtain ⟨t275, A540, H⟩ := H
         have A54 := Aside0.mk A540
         clear A540
         obtain rfl := Option.some.inj H
         have hcz55_0 : wc.cell? ⟨gb265, 0, none⟩ = some (.int .i64 x266000_4) := (blk_cell BK265.out 0).trans rfl
         have hcz55_1 : wc.cell? ⟨gb265, 1, none⟩ = some (.int .i64 x266001_4) := (blk_cell BK265.out 1).trans rfl
         have hcz55_2 : wc.cell? ⟨gb265, 2, none⟩ = some (.int .i64 x266002_4) := (blk_cell BK265.out 2).trans rfl
         have hcz55_3 : wc.cell? ⟨gb265, 3, none⟩ = some (.int .i64 x266003_4) := (blk_cell BK265.out 3).trans rfl
         have hcz55_4 : wc.cell? ⟨gb265, 4, none⟩ = some (u266004) := (blk_cell BK265.out 4).trans rfl
         have hfz55_0 := blk_frozen BK265.out 0
         have hfz55_1 := blk_frozen BK265.out 1
         have hfz55_2 := blk_frozen BK265.out 2
         have hfz55_3 := blk_frozen BK265.out 3
         have hfz55_4 := blk_frozen BK265.out 4
         obtain ⟨Ao56, co56, eo56⟩ := Kd.R_slice HO_266004.out
         subst eo56
         go_wp2_with (first | ((with_reducible refine gate_callee (f := 16) rfl ?_); refine goesL_ (some 113) rfl rfl Tryz.func16 (by kernel_rfl) rfl #[.agg #[.int .i64 x266000_4, .int .i64 (wrap64 (x266001_4 + (Int.tmod a1 4))), .int .i64 x266002_4, .int .i64 x266003_4, .slice Ao56 x266004_4.length co56]] rfl (by (try simp only [List.map_toArray, List.map_cons, List.map_nil]); first | done | rfl | (simp only [List.length_drop, List.length_take]; rfl)) ?_; (with_reducible refine (rule_Config.calls x266000_4 (wrap64 (x266001_4 + (Int.tmod a1 4))) x266002_4 x266003_4 _ _ x266004_4 t274 _ ?side1 ?side2 A52.out).mono ?_); (case side1 => refine (Kd.R_reads' (e := 3) (base := w.heap.size) (ok := fun k_ => True) (n := x266004_4.length) (c := co56) ?_).2.2; exact (by (with_reducible repeat (first | apply Kd.R_alloc | apply Kd.R_drewN | apply Kd.R_drew)); exact (Kd.R_mono (Kd.R_far (p := ⟨gb265, 1, none⟩) (Kd.R_types HO_266004.out BK265.out (by decide)) (fun _ hk => hk.2) (.int .i64 (wrap64 (x266001_4 + (Int.tmod a1 4))))) (fun _ h_ => h_.1)))); (case side2 => exact (Kd.R_reads' HO_266004.out).2.1); rintro e w57 ⟨rfl, hb⟩; refine ⟨_, rfl, ?_⟩; have n0_ := Aside0.mk (Kd.R_below (by (with_reducible repeat (first | apply Kd.R_alloc | apply Kd.R_drewN | apply Kd.R_drew)); exact (Kd.R_mono (Kd.R_far (p := ⟨gb265, 1, none⟩) (Kd.R_types HO_266004.out BK265.out (by decide)) (fun _ hk => hk.2) (.int .i64 (wrap64 (x266001_4 + (Int.tmod a1 4))))) (fun _ h_ => h_.1))) hb); have n1_ := Aside0.mk (blk_below (g := gb265) (o := .cells #[.int .i64 x266000_4, .int .i64 (wrap64 (x266001_4 + (Int.tmod a1 4))), .int .i64 x266002_4, .int .i64 x266003_4, .slice Ao56 x266004_4.length co56] 24 (0, 0)) (by (with_reducible repeat (first | refine blk_drewN ?_ _ | refine blk_drew ?_ | refine blk_alloc ?_ _)); refine blk_put (cs := #[.int .i64 x266000_4, .int .i64 x266001_4, .int .i64 x266002_4, .int .i64 x266003_4, .slice Ao56 x266004_4.length co56]) ?_ 1 _ rfl; (with_reducible repeat (first | refine blk_drewN ?_ _ | refine blk_drew ?_ | refine blk_alloc ?_ _)); exact BK265.out) hb); have n2_ := Aside0.mk (below_step (by repeat (first | (with_reducible first | exact HB.out | apply below_alloc | apply pw_below_drewN | apply below_drew1 | refine below_set ?_ GE265.out) | exact HB.out)) hb); clear HO_266004; clear BK265; clear HB; have HO_266004 := n0_; have BK265 := n1_; have HB := n2_; clear n0_ n1_ n2_; (try clear hb); (try clear hb2); (try clear hk); (try clear hi); have hcz58_0 : w57.cell? ⟨gb265, 0, none⟩ = some (.int .i64 x266000_4) := (blk_cell BK265.out 0).trans rfl; have hcz58_1 : w57.cell? ⟨gb265, 1, none⟩ = some (.int .i64 (wrap64 (x266001_4 + (Int.tmod a1 4)))) := (blk_cell BK265.out 1).trans rfl; have hcz58_2 : w57.cell? ⟨gb265, 2, none⟩ = some (.int .i64 x266002_4) := (blk_cell BK265.out 2).trans rfl; have hcz58_3 : w57.cell? ⟨gb265, 3, none⟩ = some (.int .i64 x266003_4) := (blk_cell BK265.out 3).trans rfl; have hcz58_4 : w57.cell? ⟨gb265, 4, none⟩ = some (.slice Ao56 x266004_4.length co56) := (blk_cell BK265.out 4).trans rfl; have hfz58_0 := blk_frozen BK265.out 0; have hfz58_1 := blk_frozen BK265.out 1; have hfz58_2 := blk_frozen BK265.out 2; have hfz58_3 := blk_frozen BK265.out 3; have hfz58_4 := blk_frozen BK265.out 4) | (go_at_call 28; (with_reducible refine (note_PutConfig.calls kj4 x266000_4 (wrap64 (x266001_4 + (Int.tmod a1 4))) x266002_4 x266003_4 _ _ x266004_4 t275 _ ?side1 ?side2 A54.out).mono ?_); (case side1 => repeat (first | exact (Kd.R_reads' HO_266004.out).2.2 | (with_reducible refine Kd.C_alloc ?_ _) | (with_reducible refine Kd.C_drewN ?_ _) | (with_reducible refine Kd.C_drew ?_))); (case side2 => exact (Kd.R_reads' HO_266004.out).2.1); rintro e w59 ⟨rfl, hb⟩; have n0_ := Aside0.mk (Kd.R_below (by (with_reducible repeat (first | apply Kd.R_alloc | apply Kd.R_drewN | apply Kd.R_drew)); exact HO_266004.out) hb); have n1_ := Aside0.mk (blk_below (g := gb265) (o := .cells #[.int .i64 x266000_4, .int .i64 (wrap64 (x266001_4 + (Int.tmod a1 4))), .int .i64 x266002_4, .int .i64 x266003_4, .slice Ao56 x266004_4.length co56] 24 (0, 0)) (by (with_reducible repeat (first | refine blk_drewN ?_ _ | refine blk_drew ?_ | refine blk_alloc ?_ _)); exact BK265.out) hb); have n2_ := Aside0.mk (below_step (by repeat (first | (with_reducible first | exact HB.out | apply below_alloc | apply pw_below_drewN | apply below_drew1 | refine below_set ?_ GE265.out) | exact HB.out)) hb); clear HO_266004; clear BK265; clear HB; have HO_266004 := n0_; have BK265 := n1_; have HB := n2_; clear n0_ n1_ n2_; (try clear hb); (try clear hb2); (try clear hk); (try clear hi)))
         go_ret
         exact ⟨by first | rfl | exact nil_eq1 _ _ | exact nil_eq2 _ | exact nil_eq3 _ | (simp [errW_none, errW_some] <;> rfl) | (simp [*, errW_none, errW_some] <;> rfl), by repeat (first | (with_reducible first | exact HB.out | apply below_alloc | apply pw_below_drewN | apply below_drew1 | refine below_set ?_ GE265.out) | exact HB.out)⟩
        ·rw [if_neg c53] at H
         exact absurd H (by simp)
      ·rw [if_neg c33] at H
       have c33b0 : decide (0 ≤ (wrap64 (x266001_4 + (Int.tmod a1 4)))) = false := decide_eq_false c33
       clear c33
       replace H := Option.bind_eq_some_iff.mp H
       obtain ⟨t276, A600, H⟩ := H
       have A60 := Aside0.mk A600
       clear A600
       by_cases c61 : (t276 == false) = true
       ·rw [if_pos c61] at H
        have c61b0 : (t276 == false) = true := c61
        (try (have c61b1 : decide (t276 = false) = true := by simpa using c61))
        (try (have c61b2 : (t276 == false) = true := by simpa using c61))
        clear c61
        replace H := Option.bind_eq_some_iff.mp H
        obtain ⟨t277, A620, H⟩ := H
        have A62 := Aside0.mk A620
        clear A620
        obtain rfl := Option.some.inj H
        have hcz63_0 : wc.cell? ⟨gb265, 0, none⟩ = some (.int .i64 x266000_4) := (blk_cell BK265.out 0).trans rfl
        have hcz63_1 : wc.cell? ⟨gb265, 1, none⟩ = some (.int .i64 x266001_4) := (blk_cell BK265.out 1).trans rfl
        have hcz63_2 : wc.cell? ⟨gb265, 2, none⟩ = some (.int .i64 x266002_4) := (blk_cell BK265.out 2).trans rfl
        have hcz63_3 : wc.cell? ⟨gb265, 3, none⟩ = some (.int .i64 x266003_4) := (blk_cell BK265.out 3).trans rfl
        have hcz63_4 : wc.cell? ⟨gb265, 4, none⟩ = some (u266004) := (blk_cell BK265.out 4).trans rfl
        have hfz63_0 := blk_frozen BK265.out 0
        have hfz63_1 := blk_frozen BK265.out 1
        have hfz63_2 := blk_frozen BK265.out 2
        have hfz63_3 := blk_frozen BK265.out 3
        have hfz63_4 := blk_frozen BK265.out 4
        obtain ⟨Ao64, co64, eo64⟩ := Kd.R_slice HO_266004.out
        subst eo64
        go_wp2_with (first | ((with_reducible refine gate_callee (f := 16) rfl ?_); refine goesL_ (some 113) rfl rfl Tryz.func16 (by kernel_rfl) rfl #[.agg #[.int .i64 x266000_4, .int .i64 (wrap64 (x266001_4 + (Int.tmod a1 4))), .int .i64 x266002_4, .int .i64 x266003_4, .slice Ao64 x266004_4.length co64]] rfl (by (try simp only [List.map_toArray, List.map_cons, List.map_nil]); first | done | rfl | (simp only [List.length_drop, List.length_take]; rfl)) ?_; (with_reducible refine (rule_Config.calls x266000_4 (wrap64 (x266001_4 + (Int.tmod a1 4))) x266002_4 x266003_4 _ _ x266004_4 t276 _ ?side1 ?side2 A60.out).mono ?_); (case side1 => refine (Kd.R_reads' (e := 3) (base := w.heap.size) (ok := fun k_ => True) (n := x266004_4.length) (c := co64) ?_).2.2; exact (by (with_reducible repeat (first | apply Kd.R_alloc | apply Kd.R_drewN | apply Kd.R_drew)); exact (Kd.R_mono (Kd.R_far (p := ⟨gb265, 1, none⟩) (Kd.R_types HO_266004.out BK265.out (by decide)) (fun _ hk => hk.2) (.int .i64 (wrap64 (x266001_4 + (Int.tmod a1 4))))) (fun _ h_ => h_.1)))); (case side2 => exact (Kd.R_reads' HO_266004.out).2.1); rintro e w65 ⟨rfl, hb⟩; refine ⟨_, rfl, ?_⟩; have n0_ := Aside0.mk (Kd.R_below (by (with_reducible repeat (first | apply Kd.R_alloc | apply Kd.R_drewN | apply Kd.R_drew)); exact (Kd.R_mono (Kd.R_far (p := ⟨gb265, 1, none⟩) (Kd.R_types HO_266004.out BK265.out (by decide)) (fun _ hk => hk.2) (.int .i64 (wrap64 (x266001_4 + (Int.tmod a1 4))))) (fun _ h_ => h_.1))) hb); have n1_ := Aside0.mk (blk_below (g := gb265) (o := .cells #[.int .i64 x266000_4, .int .i64 (wrap64 (x266001_4 + (Int.tmod a1 4))), .int .i64 x266002_4, .int .i64 x266003_4, .slice Ao64 x266004_4.length co64] 24 (0, 0)) (by (with_reducible repeat (first | refine blk_drewN ?_ _ | refine blk_drew ?_ | refine blk_alloc ?_ _)); refine blk_put (cs := #[.int .i64 x266000_4, .int .i64 x266001_4, .int .i64 x266002_4, .int .i64 x266003_4, .slice Ao64 x266004_4.length co64]) ?_ 1 _ rfl; (with_reducible repeat (first | refine blk_drewN ?_ _ | refine blk_drew ?_ | refine blk_alloc ?_ _)); exact BK265.out) hb); have n2_ := Aside0.mk (below_step (by repeat (first | (with_reducible first | exact HB.out | apply below_alloc | apply pw_below_drewN | apply below_drew1 | refine below_set ?_ GE265.out) | exact HB.out)) hb); clear HO_266004; clear BK265; clear HB; have HO_266004 := n0_; have BK265 := n1_; have HB := n2_; clear n0_ n1_ n2_; (try clear hb); (try clear hb2); (try clear hk); (try clear hi); have hcz66_0 : w65.cell? ⟨gb265, 0, none⟩ = some (.int .i64 x266000_4) := (blk_cell BK265.out 0).trans rfl; have hcz66_1 : w65.cell? ⟨gb265, 1, none⟩ = some (.int .i64 (wrap64 (x266001_4 + (Int.tmod a1 4)))) := (blk_cell BK265.out 1).trans rfl; have hcz66_2 : w65.cell? ⟨gb265, 2, none⟩ = some (.int .i64 x266002_4) := (blk_cell BK265.out 2).trans rfl; have hcz66_3 : w65.cell? ⟨gb265, 3, none⟩ = some (.int .i64 x266003_4) := (blk_cell BK265.out 3).trans rfl; have hcz66_4 : w65.cell? ⟨gb265, 4, none⟩ = some (.slice Ao64 x266004_4.length co64) := (blk_cell BK265.out 4).trans rfl; have hfz66_0 := blk_frozen BK265.out 0; have hfz66_1 := blk_frozen BK265.out 1; have hfz66_2 := blk_frozen BK265.out 2; have hfz66_3 := blk_frozen BK265.out 3; have hfz66_4 := blk_frozen BK265.out 4) | (go_at_call 28; (with_reducible refine (note_PutConfig.calls kj4 x266000_4 (wrap64 (x266001_4 + (Int.tmod a1 4))) x266002_4 x266003_4 _ _ x266004_4 t277 _ ?side1 ?side2 A62.out).mono ?_); (case side1 => repeat (first | exact (Kd.R_reads' HO_266004.out).2.2 | (with_reducible refine Kd.C_alloc ?_ _) | (with_reducible refine Kd.C_drewN ?_ _) | (with_reducible refine Kd.C_drew ?_))); (case side2 => exact (Kd.R_reads' HO_266004.out).2.1); rintro e w67 ⟨rfl, hb⟩; have n0_ := Aside0.mk (Kd.R_below (by (with_reducible repeat (first | apply Kd.R_alloc | apply Kd.R_drewN | apply Kd.R_drew)); exact HO_266004.out) hb); have n1_ := Aside0.mk (blk_below (g := gb265) (o := .cells #[.int .i64 x266000_4, .int .i64 (wrap64 (x266001_4 + (Int.tmod a1 4))), .int .i64 x266002_4, .int .i64 x266003_4, .slice Ao64 x266004_4.length co64] 24 (0, 0)) (by (with_reducible repeat (first | refine blk_drewN ?_ _ | refine blk_drew ?_ | refine blk_alloc ?_ _)); exact BK265.out) hb); have n2_ := Aside0.mk (below_step (by repeat (first | (with_reducible first | exact HB.out | apply below_alloc | apply pw_below_drewN | apply below_drew1 | refine below_set ?_ GE265.out) | exact HB.out)) hb); clear HO_266004; clear BK265; clear HB; have HO_266004 := n0_; have BK265 := n1_; have HB := n2_; clear n0_ n1_ n2_; (try clear hb); (try clear hb2); (try clear hk); (try clear hi)))
        go_ret
        exact ⟨by first | rfl | exact nil_eq1 _ _ | exact nil_eq2 _ | exact nil_eq3 _ | (simp [errW_none, errW_some] <;> rfl) | (simp [*, errW_none, errW_some] <;> rfl), by repeat (first | (with_reducible first | exact HB.out | apply below_alloc | apply pw_below_drewN | apply below_drew1 | refine below_set ?_ GE265.out) | exact HB.out)⟩
       ·rw [if_neg c61] at H
        exact absurd H (by simp)
     ·rw [if_neg c32] at H
      have c32b0 : ((Go.bits .and .i64 a0 7) == 1) = false := beq_eq_false_iff_ne.mpr c32
      have c32b1 : ((Go.bits .and .i64 a0 7) != 1) = true := bne_iff_ne.mpr c32
      by_cases c68 : (Go.bits .and .i64 a0 7) = 2
      ·rw [if_pos c68] at H
       have c68b0 : ((Go.bits .and .i64 a0 7) == 2) = true := beq_iff_eq.mpr c68
       have c68b1 : ((Go.bits .and .i64 a0 7) != 2) = false := bne_eq_false_iff_eq.mpr c68
       clear c68
       by_cases c69 : (wrap64 (x266002_4 + (Int.tmod a1 4))) ≥ 0
       ·rw [if_pos c69] at H
        have c69b0 : decide (0 ≤ (wrap64 (x266002_4 + (Int.tmod a1 4)))) = true := decide_eq_true c69
        clear c69
        replace H := Option.bind_eq_some_iff.mp H
        obtain ⟨t278, A700, H⟩ := H
        have A70 := Aside0.mk A700
        clear A700
        by_cases c71 : (t278 == (decide ((wrap64 (x266002_4 + (Int.tmod a1 4))) ≤ 5))) = true
        ·rw [if_pos c71] at H
         have c71b0 : (t278 == (decide ((wrap64 (x266002_4 + (Int.tmod a1 4))) ≤ 5))) = true := c71
         (try (have c71b1 : decide (t278 = (decide ((wrap64 (x266002_4 + (Int.tmod a1 4))) ≤ 5))) = true := by simpa using c71))
         (try (have c71b2 : (t278 == (decide ((wrap64 (x266002_4 + (Int.tmod a1 4))) ≤ 5))) = true := by simpa using c71))
         clear c71
         replace H := Option.bind_eq_some_iff.mp H
         obtain ⟨t279, A720, H⟩ := H
         have A72 := Aside0.mk A720
         clear A720
         obtain rfl := Option.some.inj H
         have hcz73_0 : wc.cell? ⟨gb265, 0, none⟩ = some (.int .i64 x266000_4) := (blk_cell BK265.out 0).trans rfl
         have hcz73_1 : wc.cell? ⟨gb265, 1, none⟩ = some (.int .i64 x266001_4) := (blk_cell BK265.out 1).trans rfl
         have hcz73_2 : wc.cell? ⟨gb265, 2, none⟩ = some (.int .i64 x266002_4) := (blk_cell BK265.out 2).trans rfl
         have hcz73_3 : wc.cell? ⟨gb265, 3, none⟩ = some (.int .i64 x266003_4) := (blk_cell BK265.out 3).trans rfl
         have hcz73_4 : wc.cell? ⟨gb265, 4, none⟩ = some (u266004) := (blk_cell BK265.out 4).trans rfl
         have hfz73_0 := blk_frozen BK265.out 0
         have hfz73_1 := blk_frozen BK265.out 1
         have hfz73_2 := blk_frozen BK265.out 2
         have hfz73_3 := blk_frozen BK265.out 3
         have hfz73_4 := blk_frozen BK265.out 4
         obtain ⟨Ao74, co74, eo74⟩ := Kd.R_slice HO_266004.out
         subst eo74
         go_wp2_with (first | ((with_reducible refine gate_callee (f := 16) rfl ?_); refine goesL_ (some 113) rfl rfl Tryz.func16 (by kernel_rfl) rfl #[.agg #[.int .i64 x266000_4, .int .i64 x266001_4, .int .i64 (wrap64 (x266002_4 + (Int.tmod a1 4))), .int .i64 x266003_4, .slice Ao74 x266004_4.length co74]] rfl (by (try simp only [List.map_toArray, List.map_cons, List.map_nil]); first | done | rfl | (simp only [List.length_drop, List.length_take]; rfl)) ?_; (with_reducible refine (rule_Config.calls x266000_4 x266001_4 (wrap64 (x266002_4 + (Int.tmod a1 4))) x266003_4 _ _ x266004_4 t278 _ ?side1 ?side2 A70.out).mono ?_); (case side1 => refine (Kd.R_reads' (e := 3) (base := w.heap.size) (ok := fun k_ => True) (n := x266004_4.length) (c := co74) ?_).2.2; exact (by (with_reducible repeat (first | apply Kd.R_alloc | apply Kd.R_drewN | apply Kd.R_drew)); exact (Kd.R_mono (Kd.R_far (p := ⟨gb265, 2, none⟩) (Kd.R_types HO_266004.out BK265.out (by decide)) (fun _ hk => hk.2) (.int .i64 (wrap64 (x266002_4 + (Int.tmod a1 4))))) (fun _ h_ => h_.1)))); (case side2 => exact (Kd.R_reads' HO_266004.out).2.1); rintro e w75 ⟨rfl, hb⟩; refine ⟨_, rfl, ?_⟩; have n0_ := Aside0.mk (Kd.R_below (by (with_reducible repeat (first | apply Kd.R_alloc | apply Kd.R_drewN | apply Kd.R_drew)); exact (Kd.R_mono (Kd.R_far (p := ⟨gb265, 2, none⟩) (Kd.R_types HO_266004.out BK265.out (by decide)) (fun _ hk => hk.2) (.int .i64 (wrap64 (x266002_4 + (Int.tmod a1 4))))) (fun _ h_ => h_.1))) hb); have n1_ := Aside0.mk (blk_below (g := gb265) (o := .cells #[.int .i64 x266000_4, .int .i64 x266001_4, .int .i64 (wrap64 (x266002_4 + (Int.tmod a1 4))), .int .i64 x266003_4, .slice Ao74 x266004_4.length co74] 24 (0, 0)) (by (with_reducible repeat (first | refine blk_drewN ?_ _ | refine blk_drew ?_ | refine blk_alloc ?_ _)); refine blk_put (cs := #[.int .i64 x266000_4, .int .i64 x266001_4, .int .i64 x266002_4, .int .i64 x266003_4, .slice Ao74 x266004_4.length co74]) ?_ 2 _ rfl; (with_reducible repeat (first | refine blk_drewN ?_ _ | refine blk_drew ?_ | refine blk_alloc ?_ _)); exact BK265.out) hb); have n2_ := Aside0.mk (below_step (by repeat (first | (with_reducible first | exact HB.out | apply below_alloc | apply pw_below_drewN | apply below_drew1 | refine below_set ?_ GE265.out) | exact HB.out)) hb); clear HO_266004; clear BK265; clear HB; have HO_266004 := n0_; have BK265 := n1_; have HB := n2_; clear n0_ n1_ n2_; (try clear hb); (try clear hb2); (try clear hk); (try clear hi); have hcz76_0 : w75.cell? ⟨gb265, 0, none⟩ = some (.int .i64 x266000_4) := (blk_cell BK265.out 0).trans rfl; have hcz76_1 : w75.cell? ⟨gb265, 1, none⟩ = some (.int .i64 x266001_4) := (blk_cell BK265.out 1).trans rfl; have hcz76_2 : w75.cell? ⟨gb265, 2, none⟩ = some (.int .i64 (wrap64 (x266002_4 + (Int.tmod a1 4)))) := (blk_cell BK265.out 2).trans rfl; have hcz76_3 : w75.cell? ⟨gb265, 3, none⟩ = some (.int .i64 x266003_4) := (blk_cell BK265.out 3).trans rfl; have hcz76_4 : w75.cell? ⟨gb265, 4, none⟩ = some (.slice Ao74 x266004_4.length co74) := (blk_cell BK265.out 4).trans rfl; have hfz76_0 := blk_frozen BK265.out 0; have hfz76_1 := blk_frozen BK265.out 1; have hfz76_2 := blk_frozen BK265.out 2; have hfz76_3 := blk_frozen BK265.out 3; have hfz76_4 := blk_frozen BK265.out 4) | (go_at_call 28; (with_reducible refine (note_PutConfig.calls kj4 x266000_4 x266001_4 (wrap64 (x266002_4 + (Int.tmod a1 4))) x266003_4 _ _ x266004_4 t279 _ ?side1 ?side2 A72.out).mono ?_); (case side1 => repeat (first | exact (Kd.R_reads' HO_266004.out).2.2 | (with_reducible refine Kd.C_alloc ?_ _) | (with_reducible refine Kd.C_drewN ?_ _) | (with_reducible refine Kd.C_drew ?_))); (case side2 => exact (Kd.R_reads' HO_266004.out).2.1); rintro e w77 ⟨rfl, hb⟩; have n0_ := Aside0.mk (Kd.R_below (by (with_reducible repeat (first | apply Kd.R_alloc | apply Kd.R_drewN | apply Kd.R_drew)); exact HO_266004.out) hb); have n1_ := Aside0.mk (blk_below (g := gb265) (o := .cells #[.int .i64 x266000_4, .int .i64 x266001_4, .int .i64 (wrap64 (x266002_4 + (Int.tmod a1 4))), .int .i64 x266003_4, .slice Ao74 x266004_4.length co74] 24 (0, 0)) (by (with_reducible repeat (first | refine blk_drewN ?_ _ | refine blk_drew ?_ | refine blk_alloc ?_ _)); exact BK265.out) hb); have n2_ := Aside0.mk (below_step (by repeat (first | (with_reducible first | exact HB.out | apply below_alloc | apply pw_below_drewN | apply below_drew1 | refine below_set ?_ GE265.out) | exact HB.out)) hb); clear HO_266004; clear BK265; clear HB; have HO_266004 := n0_; have BK265 := n1_; have HB := n2_; clear n0_ n1_ n2_; (try clear hb); (try clear hb2); (try clear hk); (try clear hi)))
         go_ret
         exact ⟨by first | rfl | exact nil_eq1 _ _ | exact nil_eq2 _ | exact nil_eq3 _ | (simp [errW_none, errW_some] <;> rfl) | (simp [*, errW_none, errW_some] <;> rfl), by repeat (first | (with_reducible first | exact HB.out | apply below_alloc | apply pw_below_drewN | apply below_drew1 | refine below_set ?_ GE265.out) | exact HB.out)⟩
        ·rw [if_neg c71] at H
         exact absurd H (by simp)
       ·rw [if_neg c69] at H
        have c69b0 : decide (0 ≤ (wrap64 (x266002_4 + (Int.tmod a1 4)))) = false := decide_eq_false c69
        clear c69
        replace H := Option.bind_eq_some_iff.mp H
        obtain ⟨t280, A780, H⟩ := H
        have A78 := Aside0.mk A780
        clear A780
        by_cases c79 : (t280 == false) = true
        ·rw [if_pos c79] at H
         have c79b0 : (t280 == false) = true := c79
         (try (have c79b1 : decide (t280 = false) = true := by simpa using c79))
         (try (have c79b2 : (t280 == false) = true := by simpa using c79))
         clear c79
         replace H := Option.bind_eq_some_iff.mp H
         obtain ⟨t281, A800, H⟩ := H
         have A80 := Aside0.mk A800
         clear A800
         obtain rfl := Option.some.inj H
         have hcz81_0 : wc.cell? ⟨gb265, 0, none⟩ = some (.int .i64 x266000_4) := (blk_cell BK265.out 0).trans rfl
         have hcz81_1 : wc.cell? ⟨gb265, 1, none⟩ = some (.int .i64 x266001_4) := (blk_cell BK265.out 1).trans rfl
         have hcz81_2 : wc.cell? ⟨gb265, 2, none⟩ = some (.int .i64 x266002_4) := (blk_cell BK265.out 2).trans rfl
         have hcz81_3 : wc.cell? ⟨gb265, 3, none⟩ = some (.int .i64 x266003_4) := (blk_cell BK265.out 3).trans rfl
         have hcz81_4 : wc.cell? ⟨gb265, 4, none⟩ = some (u266004) := (blk_cell BK265.out 4).trans rfl
         have hfz81_0 := blk_frozen BK265.out 0
         have hfz81_1 := blk_frozen BK265.out 1
         have hfz81_2 := blk_frozen BK265.out 2
         have hfz81_3 := blk_frozen BK265.out 3
         have hfz81_4 := blk_frozen BK265.out 4
         obtain ⟨Ao82, co82, eo82⟩ := Kd.R_slice HO_266004.out
         subst eo82
         go_wp2_with (first | ((with_reducible refine gate_callee (f := 16) rfl ?_); refine goesL_ (some 113) rfl rfl Tryz.func16 (by kernel_rfl) rfl #[.agg #[.int .i64 x266000_4, .int .i64 x266001_4, .int .i64 (wrap64 (x266002_4 + (Int.tmod a1 4))), .int .i64 x266003_4, .slice Ao82 x266004_4.length co82]] rfl (by (try simp only [List.map_toArray, List.map_cons, List.map_nil]); first | done | rfl | (simp only [List.length_drop, List.length_take]; rfl)) ?_; (with_reducible refine (rule_Config.calls x266000_4 x266001_4 (wrap64 (x266002_4 + (Int.tmod a1 4))) x266003_4 _ _ x266004_4 t280 _ ?side1 ?side2 A78.out).mono ?_); (case side1 => refine (Kd.R_reads' (e := 3) (base := w.heap.size) (ok := fun k_ => True) (n := x266004_4.length) (c := co82) ?_).2.2; exact (by (with_reducible repeat (first | apply Kd.R_alloc | apply Kd.R_drewN | apply Kd.R_drew)); exact (Kd.R_mono (Kd.R_far (p := ⟨gb265, 2, none⟩) (Kd.R_types HO_266004.out BK265.out (by decide)) (fun _ hk => hk.2) (.int .i64 (wrap64 (x266002_4 + (Int.tmod a1 4))))) (fun _ h_ => h_.1)))); (case side2 => exact (Kd.R_reads' HO_266004.out).2.1); rintro e w83 ⟨rfl, hb⟩; refine ⟨_, rfl, ?_⟩; have n0_ := Aside0.mk (Kd.R_below (by (with_reducible repeat (first | apply Kd.R_alloc | apply Kd.R_drewN | apply Kd.R_drew)); exact (Kd.R_mono (Kd.R_far (p := ⟨gb265, 2, none⟩) (Kd.R_types HO_266004.out BK265.out (by decide)) (fun _ hk => hk.2) (.int .i64 (wrap64 (x266002_4 + (Int.tmod a1 4))))) (fun _ h_ => h_.1))) hb); have n1_ := Aside0.mk (blk_below (g := gb265) (o := .cells #[.int .i64 x266000_4, .int .i64 x266001_4, .int .i64 (wrap64 (x266002_4 + (Int.tmod a1 4))), .int .i64 x266003_4, .slice Ao82 x266004_4.length co82] 24 (0, 0)) (by (with_reducible repeat (first | refine blk_drewN ?_ _ | refine blk_drew ?_ | refine blk_alloc ?_ _)); refine blk_put (cs := #[.int .i64 x266000_4, .int .i64 x266001_4, .int .i64 x266002_4, .int .i64 x266003_4, .slice Ao82 x266004_4.length co82]) ?_ 2 _ rfl; (with_reducible repeat (first | refine blk_drewN ?_ _ | refine blk_drew ?_ | refine blk_alloc ?_ _)); exact BK265.out) hb); have n2_ := Aside0.mk (below_step (by repeat (first | (with_reducible first | exact HB.out | apply below_alloc | apply pw_below_drewN | apply below_drew1 | refine below_set ?_ GE265.out) | exact HB.out)) hb); clear HO_266004; clear BK265; clear HB; have HO_266004 := n0_; have BK265 := n1_; have HB := n2_; clear n0_ n1_ n2_; (try clear hb); (try clear hb2); (try clear hk); (try clear hi); have hcz84_0 : w83.cell? ⟨gb265, 0, none⟩ = some (.int .i64 x266000_4) := (blk_cell BK265.out 0).trans rfl; have hcz84_1 : w83.cell? ⟨gb265, 1, none⟩ = some (.int .i64 x266001_4) := (blk_cell BK265.out 1).trans rfl; have hcz84_2 : w83.cell? ⟨gb265, 2, none⟩ = some (.int .i64 (wrap64 (x266002_4 + (Int.tmod a1 4)))) := (blk_cell BK265.out 2).trans rfl; have hcz84_3 : w83.cell? ⟨gb265, 3, none⟩ = some (.int .i64 x266003_4) := (blk_cell BK265.out 3).trans rfl; have hcz84_4 : w83.cell? ⟨gb265, 4, none⟩ = some (.slice Ao82 x266004_4.length co82) := (blk_cell BK265.out 4).trans rfl; have hfz84_0 := blk_frozen BK265.out 0; have hfz84_1 := blk_frozen BK265.out 1; have hfz84_2 := blk_frozen BK265.out 2; have hfz84_3 := blk_frozen BK265.out 3; have hfz84_4 := blk_frozen BK265.out 4) | (go_at_call 28; (with_reducible refine (note_PutConfig.calls kj4 x266000_4 x266001_4 (wrap64 (x266002_4 + (Int.tmod a1 4))) x266003_4 _ _ x266004_4 t281 _ ?side1 ?side2 A80.out).mono ?_); (case side1 => repeat (first | exact (Kd.R_reads' HO_266004.out).2.2 | (with_reducible refine Kd.C_alloc ?_ _) | (with_reducible refine Kd.C_drewN ?_ _) | (with_reducible refine Kd.C_drew ?_))); (case side2 => exact (Kd.R_reads' HO_266004.out).2.1); rintro e w85 ⟨rfl, hb⟩; have n0_ := Aside0.mk (Kd.R_below (by (with_reducible repeat (first | apply Kd.R_alloc | apply Kd.R_drewN | apply Kd.R_drew)); exact HO_266004.out) hb); have n1_ := Aside0.mk (blk_below (g := gb265) (o := .cells #[.int .i64 x266000_4, .int .i64 x266001_4, .int .i64 (wrap64 (x266002_4 + (Int.tmod a1 4))), .int .i64 x266003_4, .slice Ao82 x266004_4.length co82] 24 (0, 0)) (by (with_reducible repeat (first | refine blk_drewN ?_ _ | refine blk_drew ?_ | refine blk_alloc ?_ _)); exact BK265.out) hb); have n2_ := Aside0.mk (below_step (by repeat (first | (with_reducible first | exact HB.out | apply below_alloc | apply pw_below_drewN | apply below_drew1 | refine below_set ?_ GE265.out) | exact HB.out)) hb); clear HO_266004; clear BK265; clear HB; have HO_266004 := n0_; have BK265 := n1_; have HB := n2_; clear n0_ n1_ n2_; (try clear hb); (try clear hb2); (try clear hk); (try clear hi)))
         go_ret
         exact ⟨by first | rfl | exact nil_eq1 _ _ | exact nil_eq2 _ | exact nil_eq3 _ | (simp [errW_none, errW_some] <;> rfl) | (simp [*, errW_none, errW_some] <;> rfl), by repeat (first | (with_reducible first | exact HB.out | apply below_alloc | apply pw_below_drewN | apply below_drew1 | refine below_set ?_ GE265.out) | exact HB.out)⟩
        ·rw [if_neg c79] at H
         exact absurd H (by simp)
      ·rw [if_neg c68] at H
       have c68b0 : ((Go.bits .and .i64 a0 7) == 2) = false := beq_eq_false_iff_ne.mpr c68
       have c68b1 : ((Go.bits .and .i64 a0 7) != 2) = true := bne_iff_ne.mpr c68
       by_cases c86 : (Go.bits .and .i64 a0 7) = 3
       ·rw [if_pos c86] at H
        have c86b0 : ((Go.bits .and .i64 a0 7) == 3) = true := beq_iff_eq.mpr c86
        have c86b1 : ((Go.bits .and .i64 a0 7) != 3) = false := bne_eq_false_iff_eq.mpr c86
        clear c86
        by_cases c87 : (wrap64 (x266003_4 + (Int.tmod a1 4))) ≥ 0
        ·rw [if_pos c87] at H
         have c87b0 : decide (0 ≤ (wrap64 (x266003_4 + (Int.tmod a1 4)))) = true := decide_eq_true c87
         clear c87
         replace H := Option.bind_eq_some_iff.mp H
         obtain ⟨t282, A880, H⟩ := H
         have A88 := Aside0.mk A880
         clear A880
         by_cases c89 : (t282 == (decide ((wrap64 (x266003_4 + (Int.tmod a1 4))) ≤ 5))) = true
         ·rw [if_pos c89] at H
          have c89b0 : (t282 == (decide ((wrap64 (x266003_4 + (Int.tmod a1 4))) ≤ 5))) = true := c89
          (try (have c89b1 : decide (t282 = (decide ((wrap64 (x266003_4 + (Int.tmod a1 4))) ≤ 5))) = true := by simpa using c89))
          (try (have c89b2 : (t282 == (decide ((wrap64 (x266003_4 + (Int.tmod a1 4))) ≤ 5))) = true := by simpa using c89))
          clear c89
          replace H := Option.bind_eq_some_iff.mp H
          obtain ⟨t283, A900, H⟩ := H
          have A90 := Aside0.mk A900
          clear A900
          obtain rfl := Option.some.inj H
          have hcz91_0 : wc.cell? ⟨gb265, 0, none⟩ = some (.int .i64 x266000_4) := (blk_cell BK265.out 0).trans rfl
          have hcz91_1 : wc.cell? ⟨gb265, 1, none⟩ = some (.int .i64 x266001_4) := (blk_cell BK265.out 1).trans rfl
          have hcz91_2 : wc.cell? ⟨gb265, 2, none⟩ = some (.int .i64 x266002_4) := (blk_cell BK265.out 2).trans rfl
          have hcz91_3 : wc.cell? ⟨gb265, 3, none⟩ = some (.int .i64 x266003_4) := (blk_cell BK265.out 3).trans rfl
          have hcz91_4 : wc.cell? ⟨gb265, 4, none⟩ = some (u266004) := (blk_cell BK265.out 4).trans rfl
          have hfz91_0 := blk_frozen BK265.out 0
          have hfz91_1 := blk_frozen BK265.out 1
          have hfz91_2 := blk_frozen BK265.out 2
          have hfz91_3 := blk_frozen BK265.out 3
          have hfz91_4 := blk_frozen BK265.out 4
          obtain ⟨Ao92, co92, eo92⟩ := Kd.R_slice HO_266004.out
          subst eo92
          go_wp2_with (first | ((with_reducible refine gate_callee (f := 16) rfl ?_); refine goesL_ (some 113) rfl rfl Tryz.func16 (by kernel_rfl) rfl #[.agg #[.int .i64 x266000_4, .int .i64 x266001_4, .int .i64 x266002_4, .int .i64 (wrap64 (x266003_4 + (Int.tmod a1 4))), .slice Ao92 x266004_4.length co92]] rfl (by (try simp only [List.map_toArray, List.map_cons, List.map_nil]); first | done | rfl | (simp only [List.length_drop, List.length_take]; rfl)) ?_; (with_reducible refine (rule_Config.calls x266000_4 x266001_4 x266002_4 (wrap64 (x266003_4 + (Int.tmod a1 4))) _ _ x266004_4 t282 _ ?side1 ?side2 A88.out).mono ?_); (case side1 => refine (Kd.R_reads' (e := 3) (base := w.heap.size) (ok := fun k_ => True) (n := x266004_4.length) (c := co92) ?_).2.2; exact (by (with_reducible repeat (first | apply Kd.R_alloc | apply Kd.R_drewN | apply Kd.R_drew)); exact (Kd.R_mono (Kd.R_far (p := ⟨gb265, 3, none⟩) (Kd.R_types HO_266004.out BK265.out (by decide)) (fun _ hk => hk.2) (.int .i64 (wrap64 (x266003_4 + (Int.tmod a1 4))))) (fun _ h_ => h_.1)))); (case side2 => exact (Kd.R_reads' HO_266004.out).2.1); rintro e w93 ⟨rfl, hb⟩; refine ⟨_, rfl, ?_⟩; have n0_ := Aside0.mk (Kd.R_below (by (with_reducible repeat (first | apply Kd.R_alloc | apply Kd.R_drewN | apply Kd.R_drew)); exact (Kd.R_mono (Kd.R_far (p := ⟨gb265, 3, none⟩) (Kd.R_types HO_266004.out BK265.out (by decide)) (fun _ hk => hk.2) (.int .i64 (wrap64 (x266003_4 + (Int.tmod a1 4))))) (fun _ h_ => h_.1))) hb); have n1_ := Aside0.mk (blk_below (g := gb265) (o := .cells #[.int .i64 x266000_4, .int .i64 x266001_4, .int .i64 x266002_4, .int .i64 (wrap64 (x266003_4 + (Int.tmod a1 4))), .slice Ao92 x266004_4.length co92] 24 (0, 0)) (by (with_reducible repeat (first | refine blk_drewN ?_ _ | refine blk_drew ?_ | refine blk_alloc ?_ _)); refine blk_put (cs := #[.int .i64 x266000_4, .int .i64 x266001_4, .int .i64 x266002_4, .int .i64 x266003_4, .slice Ao92 x266004_4.length co92]) ?_ 3 _ rfl; (with_reducible repeat (first | refine blk_drewN ?_ _ | refine blk_drew ?_ | refine blk_alloc ?_ _)); exact BK265.out) hb); have n2_ := Aside0.mk (below_step (by repeat (first | (with_reducible first | exact HB.out | apply below_alloc | apply pw_below_drewN | apply below_drew1 | refine below_set ?_ GE265.out) | exact HB.out)) hb); clear HO_266004; clear BK265; clear HB; have HO_266004 := n0_; have BK265 := n1_; have HB := n2_; clear n0_ n1_ n2_; (try clear hb); (try clear hb2); (try clear hk); (try clear hi); have hcz94_0 : w93.cell? ⟨gb265, 0, none⟩ = some (.int .i64 x266000_4) := (blk_cell BK265.out 0).trans rfl; have hcz94_1 : w93.cell? ⟨gb265, 1, none⟩ = some (.int .i64 x266001_4) := (blk_cell BK265.out 1).trans rfl; have hcz94_2 : w93.cell? ⟨gb265, 2, none⟩ = some (.int .i64 x266002_4) := (blk_cell BK265.out 2).trans rfl; have hcz94_3 : w93.cell? ⟨gb265, 3, none⟩ = some (.int .i64 (wrap64 (x266003_4 + (Int.tmod a1 4)))) := (blk_cell BK265.out 3).trans rfl; have hcz94_4 : w93.cell? ⟨gb265, 4, none⟩ = some (.slice Ao92 x266004_4.length co92) := (blk_cell BK265.out 4).trans rfl; have hfz94_0 := blk_frozen BK265.out 0; have hfz94_1 := blk_frozen BK265.out 1; have hfz94_2 := blk_frozen BK265.out 2; have hfz94_3 := blk_frozen BK265.out 3; have hfz94_4 := blk_frozen BK265.out 4) | (go_at_call 28; (with_reducible refine (note_PutConfig.calls kj4 x266000_4 x266001_4 x266002_4 (wrap64 (x266003_4 + (Int.tmod a1 4))) _ _ x266004_4 t283 _ ?side1 ?side2 A90.out).mono ?_); (case side1 => repeat (first | exact (Kd.R_reads' HO_266004.out).2.2 | (with_reducible refine Kd.C_alloc ?_ _) | (with_reducible refine Kd.C_drewN ?_ _) | (with_reducible refine Kd.C_drew ?_))); (case side2 => exact (Kd.R_reads' HO_266004.out).2.1); rintro e w95 ⟨rfl, hb⟩; have n0_ := Aside0.mk (Kd.R_below (by (with_reducible repeat (first | apply Kd.R_alloc | apply Kd.R_drewN | apply Kd.R_drew)); exact HO_266004.out) hb); have n1_ := Aside0.mk (blk_below (g := gb265) (o := .cells #[.int .i64 x266000_4, .int .i64 x266001_4, .int .i64 x266002_4, .int .i64 (wrap64 (x266003_4 + (Int.tmod a1 4))), .slice Ao92 x266004_4.length co92] 24 (0, 0)) (by (with_reducible repeat (first | refine blk_drewN ?_ _ | refine blk_drew ?_ | refine blk_alloc ?_ _)); exact BK265.out) hb); have n2_ := Aside0.mk (below_step (by repeat (first | (with_reducible first | exact HB.out | apply below_alloc | apply pw_below_drewN | apply below_drew1 | refine below_set ?_ GE265.out) | exact HB.out)) hb); clear HO_266004; clear BK265; clear HB; have HO_266004 := n0_; have BK265 := n1_; have HB := n2_; clear n0_ n1_ n2_; (try clear hb); (try clear hb2); (try clear hk); (try clear hi)))
          go_ret
          exact ⟨by first | rfl | exact nil_eq1 _ _ | exact nil_eq2 _ | exact nil_eq3 _ | (simp [errW_none, errW_some] <;> rfl) | (simp [*, errW_none, errW_some] <;> rfl), by repeat (first | (with_reducible first | exact HB.out | apply below_alloc | apply pw_below_drewN | apply below_drew1 | refine below_set ?_ GE265.out) | exact HB.out)⟩
         ·rw [if_neg c89] at H
          exact absurd H (by simp)
        ·rw [if_neg c87] at H
         have c87b0 : decide (0 ≤ (wrap64 (x266003_4 + (Int.tmod a1 4)))) = false := decide_eq_false c87
         clear c87
         replace H := Option.bind_eq_some_iff.mp H
         obtain ⟨t284, A960, H⟩ := H
         have A96 := Aside0.mk A960
         clear A960
         by_cases c97 : (t284 == false) = true
         ·rw [if_pos c97] at H
          have c97b0 : (t284 == false) = true := c97
          (try (have c97b1 : decide (t284 = false) = true := by simpa using c97))
          (try (have c97b2 : (t284 == false) = true := by simpa using c97))
          clear c97
          replace H := Option.bind_eq_some_iff.mp H
          obtain ⟨t285, A980, H⟩ := H
          have A98 := Aside0.mk A980
          clear A980
          obtain rfl := Option.some.inj H
          have hcz99_0 : wc.cell? ⟨gb265, 0, none⟩ = some (.int .i64 x266000_4) := (blk_cell BK265.out 0).trans rfl
          have hcz99_1 : wc.cell? ⟨gb265, 1, none⟩ = some (.int .i64 x266001_4) := (blk_cell BK265.out 1).trans rfl
          have hcz99_2 : wc.cell? ⟨gb265, 2, none⟩ = some (.int .i64 x266002_4) := (blk_cell BK265.out 2).trans rfl
          have hcz99_3 : wc.cell? ⟨gb265, 3, none⟩ = some (.int .i64 x266003_4) := (blk_cell BK265.out 3).trans rfl
          have hcz99_4 : wc.cell? ⟨gb265, 4, none⟩ = some (u266004) := (blk_cell BK265.out 4).trans rfl
          have hfz99_0 := blk_frozen BK265.out 0
          have hfz99_1 := blk_frozen BK265.out 1
          have hfz99_2 := blk_frozen BK265.out 2
          have hfz99_3 := blk_frozen BK265.out 3
          have hfz99_4 := blk_frozen BK265.out 4
          obtain ⟨Ao100, co100, eo100⟩ := Kd.R_slice HO_266004.out
          subst eo100
          go_wp2_with (first | ((with_reducible refine gate_callee (f := 16) rfl ?_); refine goesL_ (some 113) rfl rfl Tryz.func16 (by kernel_rfl) rfl #[.agg #[.int .i64 x266000_4, .int .i64 x266001_4, .int .i64 x266002_4, .int .i64 (wrap64 (x266003_4 + (Int.tmod a1 4))), .slice Ao100 x266004_4.length co100]] rfl (by (try simp only [List.map_toArray, List.map_cons, List.map_nil]); first | done | rfl | (simp only [List.length_drop, List.length_take]; rfl)) ?_; (with_reducible refine (rule_Config.calls x266000_4 x266001_4 x266002_4 (wrap64 (x266003_4 + (Int.tmod a1 4))) _ _ x266004_4 t284 _ ?side1 ?side2 A96.out).mono ?_); (case side1 => refine (Kd.R_reads' (e := 3) (base := w.heap.size) (ok := fun k_ => True) (n := x266004_4.length) (c := co100) ?_).2.2; exact (by (with_reducible repeat (first | apply Kd.R_alloc | apply Kd.R_drewN | apply Kd.R_drew)); exact (Kd.R_mono (Kd.R_far (p := ⟨gb265, 3, none⟩) (Kd.R_types HO_266004.out BK265.out (by decide)) (fun _ hk => hk.2) (.int .i64 (wrap64 (x266003_4 + (Int.tmod a1 4))))) (fun _ h_ => h_.1)))); (case side2 => exact (Kd.R_reads' HO_266004.out).2.1); rintro e w101 ⟨rfl, hb⟩; refine ⟨_, rfl, ?_⟩; have n0_ := Aside0.mk (Kd.R_below (by (with_reducible repeat (first | apply Kd.R_alloc | apply Kd.R_drewN | apply Kd.R_drew)); exact (Kd.R_mono (Kd.R_far (p := ⟨gb265, 3, none⟩) (Kd.R_types HO_266004.out BK265.out (by decide)) (fun _ hk => hk.2) (.int .i64 (wrap64 (x266003_4 + (Int.tmod a1 4))))) (fun _ h_ => h_.1))) hb); have n1_ := Aside0.mk (blk_below (g := gb265) (o := .cells #[.int .i64 x266000_4, .int .i64 x266001_4, .int .i64 x266002_4, .int .i64 (wrap64 (x266003_4 + (Int.tmod a1 4))), .slice Ao100 x266004_4.length co100] 24 (0, 0)) (by (with_reducible repeat (first | refine blk_drewN ?_ _ | refine blk_drew ?_ | refine blk_alloc ?_ _)); refine blk_put (cs := #[.int .i64 x266000_4, .int .i64 x266001_4, .int .i64 x266002_4, .int .i64 x266003_4, .slice Ao100 x266004_4.length co100]) ?_ 3 _ rfl; (with_reducible repeat (first | refine blk_drewN ?_ _ | refine blk_drew ?_ | refine blk_alloc ?_ _)); exact BK265.out) hb); have n2_ := Aside0.mk (below_step (by repeat (first | (with_reducible first | exact HB.out | apply below_alloc | apply pw_below_drewN | apply below_drew1 | refine below_set ?_ GE265.out) | exact HB.out)) hb); clear HO_266004; clear BK265; clear HB; have HO_266004 := n0_; have BK265 := n1_; have HB := n2_; clear n0_ n1_ n2_; (try clear hb); (try clear hb2); (try clear hk); (try clear hi); have hcz102_0 : w101.cell? ⟨gb265, 0, none⟩ = some (.int .i64 x266000_4) := (blk_cell BK265.out 0).trans rfl; have hcz102_1 : w101.cell? ⟨gb265, 1, none⟩ = some (.int .i64 x266001_4) := (blk_cell BK265.out 1).trans rfl; have hcz102_2 : w101.cell? ⟨gb265, 2, none⟩ = some (.int .i64 x266002_4) := (blk_cell BK265.out 2).trans rfl; have hcz102_3 : w101.cell? ⟨gb265, 3, none⟩ = some (.int .i64 (wrap64 (x266003_4 + (Int.tmod a1 4)))) := (blk_cell BK265.out 3).trans rfl; have hcz102_4 : w101.cell? ⟨gb265, 4, none⟩ = some (.slice Ao100 x266004_4.length co100) := (blk_cell BK265.out 4).trans rfl; have hfz102_0 := blk_frozen BK265.out 0; have hfz102_1 := blk_frozen BK265.out 1; have hfz102_2 := blk_frozen BK265.out 2; have hfz102_3 := blk_frozen BK265.out 3; have hfz102_4 := blk_frozen BK265.out 4) | (go_at_call 28; (with_reducible refine (note_PutConfig.calls kj4 x266000_4 x266001_4 x266002_4 (wrap64 (x266003_4 + (Int.tmod a1 4))) _ _ x266004_4 t285 _ ?side1 ?side2 A98.out).mono ?_); (case side1 => repeat (first | exact (Kd.R_reads' HO_266004.out).2.2 | (with_reducible refine Kd.C_alloc ?_ _) | (with_reducible refine Kd.C_drewN ?_ _) | (with_reducible refine Kd.C_drew ?_))); (case side2 => exact (Kd.R_reads' HO_266004.out).2.1); rintro e w103 ⟨rfl, hb⟩; have n0_ := Aside0.mk (Kd.R_below (by (with_reducible repeat (first | apply Kd.R_alloc | apply Kd.R_drewN | apply Kd.R_drew)); exact HO_266004.out) hb); have n1_ := Aside0.mk (blk_below (g := gb265) (o := .cells #[.int .i64 x266000_4, .int .i64 x266001_4, .int .i64 x266002_4, .int .i64 (wrap64 (x266003_4 + (Int.tmod a1 4))), .slice Ao100 x266004_4.length co100] 24 (0, 0)) (by (with_reducible repeat (first | refine blk_drewN ?_ _ | refine blk_drew ?_ | refine blk_alloc ?_ _)); exact BK265.out) hb); have n2_ := Aside0.mk (below_step (by repeat (first | (with_reducible first | exact HB.out | apply below_alloc | apply pw_below_drewN | apply below_drew1 | refine below_set ?_ GE265.out) | exact HB.out)) hb); clear HO_266004; clear BK265; clear HB; have HO_266004 := n0_; have BK265 := n1_; have HB := n2_; clear n0_ n1_ n2_; (try clear hb); (try clear hb2); (try clear hk); (try clear hi)))
          go_ret
          exact ⟨by first | rfl | exact nil_eq1 _ _ | exact nil_eq2 _ | exact nil_eq3 _ | (simp [errW_none, errW_some] <;> rfl) | (simp [*, errW_none, errW_some] <;> rfl), by repeat (first | (with_reducible first | exact HB.out | apply below_alloc | apply pw_below_drewN | apply below_drew1 | refine below_set ?_ GE265.out) | exact HB.out)⟩
         ·rw [if_neg c97] at H
          exact absurd H (by simp)
       ·rw [if_neg c86] at H
        have c86b0 : ((Go.bits .and .i64 a0 7) == 3) = false := beq_eq_false_iff_ne.mpr c86
        have c86b1 : ((Go.bits .and .i64 a0 7) != 3) = true := bne_iff_ne.mpr c86
        by_cases c104 : x266004_4.length < 17592186044416
        ·rw [if_pos c104] at H
         have LMc104 := Aside0.mk c104
         clear c104
         obtain ⟨y286, hy286⟩ : ∃ y_ : List Int, y_ = (x266004_4 ++ [Int.tmod a1 4]) := ⟨_, rfl⟩
         replace H : (if (y286.length : Int) ≤ 6 then (if (Int.tmod a1 4) ≥ 0 then ((rule_Config.f x266000_4 x266001_4 x266002_4 x266003_4 y286).bind fun t289 => (if (t289 == (decide ((Int.tmod a1 4) < x266001_4))) = true then ((note_PutConfig.f kj4 x266000_4 x266001_4 x266002_4 x266003_4 y286).bind fun t290 => (some ((t290.toList != ([] : List UInt8)) == (decide ((Int.tmod a1 4) < x266001_4))))) else (none))) else ((rule_Config.f x266000_4 x266001_4 x266002_4 x266003_4 y286).bind fun t291 => (if (t291 == false) = true then ((note_PutConfig.f kj4 x266000_4 x266001_4 x266002_4 x266003_4 y286).bind fun t292 => (some ((t292.toList != ([] : List UInt8)) == false))) else (none)))) else ((rule_Config.f x266000_4 x266001_4 x266002_4 x266003_4 y286).bind fun t293 => (if (t293 == false) = true then ((note_PutConfig.f kj4 x266000_4 x266001_4 x266002_4 x266003_4 y286).bind fun t294 => (some ((t294.toList != ([] : List UInt8)) == false))) else (none)))) = some r := by first | (rw [hy286]; with_reducible exact H) | (have H2_ := (Option.bind_some _ _).symm.trans H; rw [hy286]; with_reducible exact H2_) | (have H2_ := (Option.bind_some _ _).symm.trans H; with_reducible exact H2_) | with_reducible exact H | (rw [hy286]; exact H) | exact H
         have Ny286 := Aside0.mk hy286
         clear hy286
         by_cases c105 : (y286.length : Int) ≤ 6
         ·rw [if_pos c105] at H
          have c105b0 : decide ((y286.length : Int) ≤ 6) = true := decide_eq_true c105
          have c105b1 : decide (y286.length ≤ 6) = true := decide_eq_true (by omega)
          clear c105
          by_cases c106 : (Int.tmod a1 4) ≥ 0
          ·rw [if_pos c106] at H
           have c106b0 : decide (0 ≤ (Int.tmod a1 4)) = true := decide_eq_true c106
           clear c106
           replace H := Option.bind_eq_some_iff.mp H
           obtain ⟨t289, A1070, H⟩ := H
           have A107 := Aside0.mk A1070
           clear A1070
           by_cases c108 : (t289 == (decide ((Int.tmod a1 4) < x266001_4))) = true
           ·rw [if_pos c108] at H
            have c108b0 : (t289 == (decide ((Int.tmod a1 4) < x266001_4))) = true := c108
            (try (have c108b1 : decide (t289 = (decide ((Int.tmod a1 4) < x266001_4))) = true := by simpa using c108))
            (try (have c108b2 : (t289 == (decide ((Int.tmod a1 4) < x266001_4))) = true := by simpa using c108))
            clear c108
            replace H := Option.bind_eq_some_iff.mp H
            obtain ⟨t290, A1090, H⟩ := H
            have A109 := Aside0.mk A1090
            clear A1090
            obtain rfl := Option.some.inj H
            have hcz110_0 : wc.cell? ⟨gb265, 0, none⟩ = some (.int .i64 x266000_4) := (blk_cell BK265.out 0).trans rfl
            have hcz110_1 : wc.cell? ⟨gb265, 1, none⟩ = some (.int .i64 x266001_4) := (blk_cell BK265.out 1).trans rfl
            have hcz110_2 : wc.cell? ⟨gb265, 2, none⟩ = some (.int .i64 x266002_4) := (blk_cell BK265.out 2).trans rfl
            have hcz110_3 : wc.cell? ⟨gb265, 3, none⟩ = some (.int .i64 x266003_4) := (blk_cell BK265.out 3).trans rfl
            have hcz110_4 : wc.cell? ⟨gb265, 4, none⟩ = some (u266004) := (blk_cell BK265.out 4).trans rfl
            have hfz110_0 := blk_frozen BK265.out 0
            have hfz110_1 := blk_frozen BK265.out 1
            have hfz110_2 := blk_frozen BK265.out 2
            have hfz110_3 := blk_frozen BK265.out 3
            have hfz110_4 := blk_frozen BK265.out 4
            go_wp2_with (first | ((with_reducible refine gate_builtin (b := .append) (xs := #[.tmp 22, .tmp 24]) rfl ?_); (try (refine gate_guard (by rfl) ?_; dsimp only)); at_builtin; refine Kd.R_append (Kd.int .i64) (w0 := w) w.heap.size rfl (.tmp 22) (.tmp 24) 22 3 (.int .i64 0) 8 rfl Tryz.underlying22 info3 rfl (by decide) (by decide) u266004 x266004_4 (Int.tmod a1 4) [.int .i64 (Int.tmod a1 4)] (fun _ => True) (fun _ => False) rfl rfl ?aP (fun _ hk => hk.elim) ?aF ?aO ?aB ?aS ?aL ?_; (case aP => exact rfl); (case aB => exact (by repeat (first | (with_reducible first | exact HB.out | apply below_alloc | apply pw_below_drewN | apply below_drew1 | refine below_set ?_ GE265.out) | exact HB.out))); (case aF => exact (fun _ _ => trivial)); (case aO => exact (by (with_reducible repeat (first | apply Kd.R_alloc | apply Kd.R_drewN | apply Kd.R_drew)); exact HO_266004.out)); (case aS => exact (below_size (by repeat (first | (with_reducible first | exact HB.out | apply below_alloc | apply pw_below_drewN | apply below_drew1 | refine below_set ?_ GE265.out) | exact HB.out)))); (case aL => have := LMc104.out; omega); intro v287 w111 ho hb hg hat; rw [← Ny286.out] at ho; have n0_ := Aside0.mk (blk_grown (g := gb265) (o := .cells #[.int .i64 x266000_4, .int .i64 x266001_4, .int .i64 x266002_4, .int .i64 x266003_4, u266004] 24 (0, 0)) (by (with_reducible repeat (first | refine blk_drewN ?_ _ | refine blk_drew ?_ | refine blk_alloc ?_ _)); exact BK265.out) hg (Kd.R_ne HO_266004.out BK265.out (by decide))); have n1_ := Aside0.mk (hb); have n2_ := Aside0.mk (ho); clear BK265; clear HB; clear HO_266004; have BK265 := n0_; have HB := n1_; have HO288 := n2_; clear n0_ n1_ n2_; clear ho hb hg hat; obtain ⟨Ao112, co112, eo112⟩ := Kd.R_slice HO288.out; subst eo112; have hcz113_0 : w111.cell? ⟨gb265, 0, none⟩ = some (.int .i64 x266000_4) := (blk_cell BK265.out 0).trans rfl; have hcz113_1 : w111.cell? ⟨gb265, 1, none⟩ = some (.int .i64 x266001_4) := (blk_cell BK265.out 1).trans rfl; have hcz113_2 : w111.cell? ⟨gb265, 2, none⟩ = some (.int .i64 x266002_4) := (blk_cell BK265.out 2).trans rfl; have hcz113_3 : w111.cell? ⟨gb265, 3, none⟩ = some (.int .i64 x266003_4) := (blk_cell BK265.out 3).trans rfl; have hcz113_4 : w111.cell? ⟨gb265, 4, none⟩ = some (u266004) := (blk_cell BK265.out 4).trans rfl; have hfz113_0 := blk_frozen BK265.out 0; have hfz113_1 := blk_frozen BK265.out 1; have hfz113_2 := blk_frozen BK265.out 2; have hfz113_3 := blk_frozen BK265.out 3; have hfz113_4 := blk_frozen BK265.out 4) | ((with_reducible refine gate_callee (f := 16) rfl ?_); refine goesL_ (some 113) rfl rfl Tryz.func16 (by kernel_rfl) rfl #[.agg #[.int .i64 x266000_4, .int .i64 x266001_4, .int .i64 x266002_4, .int .i64 x266003_4, .slice Ao112 y286.length co112]] rfl (by (try simp only [List.map_toArray, List.map_cons, List.map_nil]); first | done | rfl | (simp only [List.length_drop, List.length_take]; rfl)) ?_; (with_reducible refine (rule_Config.calls x266000_4 x266001_4 x266002_4 x266003_4 _ _ y286 t289 _ ?side1 ?side2 A107.out).mono ?_); (case side1 => refine (Kd.R_reads' (e := 3) (base := w.heap.size) (ok := fun k_ => True) (n := y286.length) (c := co112) ?_).2.2; exact (by (with_reducible repeat (first | apply Kd.R_alloc | apply Kd.R_drewN | apply Kd.R_drew)); exact (Kd.R_mono (Kd.R_far (p := ⟨gb265, 4, none⟩) (Kd.R_types HO288.out BK265.out (by decide)) (fun _ hk => hk.2) (.slice Ao112 y286.length co112)) (fun _ h_ => h_.1)))); (case side2 => exact (Kd.R_reads' HO288.out).2.1); rintro e w114 ⟨rfl, hb⟩; refine ⟨_, rfl, ?_⟩; have n0_ := Aside0.mk (Kd.R_below (by (with_reducible repeat (first | apply Kd.R_alloc | apply Kd.R_drewN | apply Kd.R_drew)); exact (Kd.R_mono (Kd.R_far (p := ⟨gb265, 4, none⟩) (Kd.R_types HO288.out BK265.out (by decide)) (fun _ hk => hk.2) (.slice Ao112 y286.length co112)) (fun _ h_ => h_.1))) hb); have n1_ := Aside0.mk (blk_below (g := gb265) (o := .cells #[.int .i64 x266000_4, .int .i64 x266001_4, .int .i64 x266002_4, .int .i64 x266003_4, .slice Ao112 y286.length co112] 24 (0, 0)) (by (with_reducible repeat (first | refine blk_drewN ?_ _ | refine blk_drew ?_ | refine blk_alloc ?_ _)); refine blk_put (cs := #[.int .i64 x266000_4, .int .i64 x266001_4, .int .i64 x266002_4, .int .i64 x266003_4, u266004]) ?_ 4 _ rfl; (with_reducible repeat (first | refine blk_drewN ?_ _ | refine blk_drew ?_ | refine blk_alloc ?_ _)); exact BK265.out) hb); have n2_ := Aside0.mk (below_step (by repeat (first | (with_reducible first | exact HB.out | apply below_alloc | apply pw_below_drewN | apply below_drew1 | refine below_set ?_ GE265.out) | exact HB.out)) hb); clear HO288; clear BK265; clear HB; have HO288 := n0_; have BK265 := n1_; have HB := n2_; clear n0_ n1_ n2_; (try clear hb); (try clear hb2); (try clear hk); (try clear hi); have hcz115_0 : w114.cell? ⟨gb265, 0, none⟩ = some (.int .i64 x266000_4) := (blk_cell BK265.out 0).trans rfl; have hcz115_1 : w114.cell? ⟨gb265, 1, none⟩ = some (.int .i64 x266001_4) := (blk_cell BK265.out 1).trans rfl; have hcz115_2 : w114.cell? ⟨gb265, 2, none⟩ = some (.int .i64 x266002_4) := (blk_cell BK265.out 2).trans rfl; have hcz115_3 : w114.cell? ⟨gb265, 3, none⟩ = some (.int .i64 x266003_4) := (blk_cell BK265.out 3).trans rfl; have hcz115_4 : w114.cell? ⟨gb265, 4, none⟩ = some (.slice Ao112 y286.length co112) := (blk_cell BK265.out 4).trans rfl; have hfz115_0 := blk_frozen BK265.out 0; have hfz115_1 := blk_frozen BK265.out 1; have hfz115_2 := blk_frozen BK265.out 2; have hfz115_3 := blk_frozen BK265.out 3; have hfz115_4 := blk_frozen BK265.out 4) | (go_at_call 28; (with_reducible refine (note_PutConfig.calls kj4 x266000_4 x266001_4 x266002_4 x266003_4 _ _ y286 t290 _ ?side1 ?side2 A109.out).mono ?_); (case side1 => repeat (first | exact (Kd.R_reads' HO288.out).2.2 | (with_reducible refine Kd.C_alloc ?_ _) | (with_reducible refine Kd.C_drewN ?_ _) | (with_reducible refine Kd.C_drew ?_))); (case side2 => exact (Kd.R_reads' HO288.out).2.1); rintro e w116 ⟨rfl, hb⟩; have n0_ := Aside0.mk (Kd.R_below (by (with_reducible repeat (first | apply Kd.R_alloc | apply Kd.R_drewN | apply Kd.R_drew)); exact HO288.out) hb); have n1_ := Aside0.mk (blk_below (g := gb265) (o := .cells #[.int .i64 x266000_4, .int .i64 x266001_4, .int .i64 x266002_4, .int .i64 x266003_4, .slice Ao112 y286.length co112] 24 (0, 0)) (by (with_reducible repeat (first | refine blk_drewN ?_ _ | refine blk_drew ?_ | refine blk_alloc ?_ _)); exact BK265.out) hb); have n2_ := Aside0.mk (below_step (by repeat (first | (with_reducible first | exact HB.out | apply below_alloc | apply pw_below_drewN | apply below_drew1 | refine below_set ?_ GE265.out) | exact HB.out)) hb); clear HO288; clear BK265; clear HB; have HO288 := n0_; have BK265 := n1_; have HB := n2_; clear n0_ n1_ n2_; (try clear hb); (try clear hb2); (try clear hk); (try clear hi)))
            go_ret
            exact ⟨by first | rfl | exact nil_eq1 _ _ | exact nil_eq2 _ | exact nil_eq3 _ | (simp [errW_none, errW_some] <;> rfl) | (simp [*, errW_none, errW_some] <;> rfl), by repeat (first | (with_reducible first | exact HB.out | apply below_alloc | apply pw_below_drewN | apply below_drew1 | refine below_set ?_ GE265.out) | exact HB.out)⟩
           ·rw [if_neg c108] at H
            exact absurd H (by simp)
          ·rw [if_neg c106] at H
           have c106b0 : decide (0 ≤ (Int.tmod a1 4)) = false := decide_eq_false c106
           clear c106
           replace H := Option.bind_eq_some_iff.mp H
           obtain ⟨t291, A1170, H⟩ := H
           have A117 := Aside0.mk A1170
           clear A1170
           by_cases c118 : (t291 == false) = true
           ·rw [if_pos c118] at H
            have c118b0 : (t291 == false) = true := c118
            (try (have c118b1 : decide (t291 = false) = true := by simpa using c118))
            (try (have c118b2 : (t291 == false) = true := by simpa using c118))
            clear c118
            replace H := Option.bind_eq_some_iff.mp H
            obtain ⟨t292, A1190, H⟩ := H
            have A119 := Aside0.mk A1190
            clear A1190
            obtain rfl := Option.some.inj H
            have hcz120_0 : wc.cell? ⟨gb265, 0, none⟩ = some (.int .i64 x266000_4) := (blk_cell BK265.out 0).trans rfl
            have hcz120_1 : wc.cell? ⟨gb265, 1, none⟩ = some (.int .i64 x266001_4) := (blk_cell BK265.out 1).trans rfl
            have hcz120_2 : wc.cell? ⟨gb265, 2, none⟩ = some (.int .i64 x266002_4) := (blk_cell BK265.out 2).trans rfl
            have hcz120_3 : wc.cell? ⟨gb265, 3, none⟩ = some (.int .i64 x266003_4) := (blk_cell BK265.out 3).trans rfl
            have hcz120_4 : wc.cell? ⟨gb265, 4, none⟩ = some (u266004) := (blk_cell BK265.out 4).trans rfl
            have hfz120_0 := blk_frozen BK265.out 0
            have hfz120_1 := blk_frozen BK265.out 1
            have hfz120_2 := blk_frozen BK265.out 2
            have hfz120_3 := blk_frozen BK265.out 3
            have hfz120_4 := blk_frozen BK265.out 4
            go_wp2_with (first | ((with_reducible refine gate_builtin (b := .append) (xs := #[.tmp 22, .tmp 24]) rfl ?_); (try (refine gate_guard (by rfl) ?_; dsimp only)); at_builtin; refine Kd.R_append (Kd.int .i64) (w0 := w) w.heap.size rfl (.tmp 22) (.tmp 24) 22 3 (.int .i64 0) 8 rfl Tryz.underlying22 info3 rfl (by decide) (by decide) u266004 x266004_4 (Int.tmod a1 4) [.int .i64 (Int.tmod a1 4)] (fun _ => True) (fun _ => False) rfl rfl ?aP (fun _ hk => hk.elim) ?aF ?aO ?aB ?aS ?aL ?_; (case aP => exact rfl); (case aB => exact (by repeat (first | (with_reducible first | exact HB.out | apply below_alloc | apply pw_below_drewN | apply below_drew1 | refine below_set ?_ GE265.out) | exact HB.out))); (case aF => exact (fun _ _ => trivial)); (case aO => exact (by (with_reducible repeat (first | apply Kd.R_alloc | apply Kd.R_drewN | apply Kd.R_drew)); exact HO_266004.out)); (case aS => exact (below_size (by repeat (first | (with_reducible first | exact HB.out | apply below_alloc | apply pw_below_drewN | apply below_drew1 | refine below_set ?_ GE265.out) | exact HB.out)))); (case aL => have := LMc104.out; omega); intro v287 w121 ho hb hg hat; rw [← Ny286.out] at ho; have n0_ := Aside0.mk (blk_grown (g := gb265) (o := .cells #[.int .i64 x266000_4, .int .i64 x266001_4, .int .i64 x266002_4, .int .i64 x266003_4, u266004] 24 (0, 0)) (by (with_reducible repeat (first | refine blk_drewN ?_ _ | refine blk_drew ?_ | refine blk_alloc ?_ _)); exact BK265.out) hg (Kd.R_ne HO_266004.out BK265.out (by decide))); have n1_ := Aside0.mk (hb); have n2_ := Aside0.mk (ho); clear BK265; clear HB; clear HO_266004; have BK265 := n0_; have HB := n1_; have HO288 := n2_; clear n0_ n1_ n2_; clear ho hb hg hat; obtain ⟨Ao122, co122, eo122⟩ := Kd.R_slice HO288.out; subst eo122; have hcz123_0 : w121.cell? ⟨gb265, 0, none⟩ = some (.int .i64 x266000_4) := (blk_cell BK265.out 0).trans rfl; have hcz123_1 : w121.cell? ⟨gb265, 1, none⟩ = some (.int .i64 x266001_4) := (blk_cell BK265.out 1).trans rfl; have hcz123_2 : w121.cell? ⟨gb265, 2, none⟩ = some (.int .i64 x266002_4) := (blk_cell BK265.out 2).trans rfl; have hcz123_3 : w121.cell? ⟨gb265, 3, none⟩ = some (.int .i64 x266003_4) := (blk_cell BK265.out 3).trans rfl; have hcz123_4 : w121.cell? ⟨gb265, 4, none⟩ = some (u266004) := (blk_cell BK265.out 4).trans rfl; have hfz123_0 := blk_frozen BK265.out 0; have hfz123_1 := blk_frozen BK265.out 1; have hfz123_2 := blk_frozen BK265.out 2; have hfz123_3 := blk_frozen BK265.out 3; have hfz123_4 := blk_frozen BK265.out 4) | ((with_reducible refine gate_callee (f := 16) rfl ?_); refine goesL_ (some 113) rfl rfl Tryz.func16 (by kernel_rfl) rfl #[.agg #[.int .i64 x266000_4, .int .i64 x266001_4, .int .i64 x266002_4, .int .i64 x266003_4, .slice Ao122 y286.length co122]] rfl (by (try simp only [List.map_toArray, List.map_cons, List.map_nil]); first | done | rfl | (simp only [List.length_drop, List.length_take]; rfl)) ?_; (with_reducible refine (rule_Config.calls x266000_4 x266001_4 x266002_4 x266003_4 _ _ y286 t291 _ ?side1 ?side2 A117.out).mono ?_); (case side1 => refine (Kd.R_reads' (e := 3) (base := w.heap.size) (ok := fun k_ => True) (n := y286.length) (c := co122) ?_).2.2; exact (by (with_reducible repeat (first | apply Kd.R_alloc | apply Kd.R_drewN | apply Kd.R_drew)); exact (Kd.R_mono (Kd.R_far (p := ⟨gb265, 4, none⟩) (Kd.R_types HO288.out BK265.out (by decide)) (fun _ hk => hk.2) (.slice Ao122 y286.length co122)) (fun _ h_ => h_.1)))); (case side2 => exact (Kd.R_reads' HO288.out).2.1); rintro e w124 ⟨rfl, hb⟩; refine ⟨_, rfl, ?_⟩; have n0_ := Aside0.mk (Kd.R_below (by (with_reducible repeat (first | apply Kd.R_alloc | apply Kd.R_drewN | apply Kd.R_drew)); exact (Kd.R_mono (Kd.R_far (p := ⟨gb265, 4, none⟩) (Kd.R_types HO288.out BK265.out (by decide)) (fun _ hk => hk.2) (.slice Ao122 y286.length co122)) (fun _ h_ => h_.1))) hb); have n1_ := Aside0.mk (blk_below (g := gb265) (o := .cells #[.int .i64 x266000_4, .int .i64 x266001_4, .int .i64 x266002_4, .int .i64 x266003_4, .slice Ao122 y286.length co122] 24 (0, 0)) (by (with_reducible repeat (first | refine blk_drewN ?_ _ | refine blk_drew ?_ | refine blk_alloc ?_ _)); refine blk_put (cs := #[.int .i64 x266000_4, .int .i64 x266001_4, .int .i64 x266002_4, .int .i64 x266003_4, u266004]) ?_ 4 _ rfl; (with_reducible repeat (first | refine blk_drewN ?_ _ | refine blk_drew ?_ | refine blk_alloc ?_ _)); exact BK265.out) hb); have n2_ := Aside0.mk (below_step (by repeat (first | (with_reducible first | exact HB.out | apply below_alloc | apply pw_below_drewN | apply below_drew1 | refine below_set ?_ GE265.out) | exact HB.out)) hb); clear HO288; clear BK265; clear HB; have HO288 := n0_; have BK265 := n1_; have HB := n2_; clear n0_ n1_ n2_; (try clear hb); (try clear hb2); (try clear hk); (try clear hi); have hcz125_0 : w124.cell? ⟨gb265, 0, none⟩ = some (.int .i64 x266000_4) := (blk_cell BK265.out 0).trans rfl; have hcz125_1 : w124.cell? ⟨gb265, 1, none⟩ = some (.int .i64 x266001_4) := (blk_cell BK265.out 1).trans rfl; have hcz125_2 : w124.cell? ⟨gb265, 2, none⟩ = some (.int .i64 x266002_4) := (blk_cell BK265.out 2).trans rfl; have hcz125_3 : w124.cell? ⟨gb265, 3, none⟩ = some (.int .i64 x266003_4) := (blk_cell BK265.out 3).trans rfl; have hcz125_4 : w124.cell? ⟨gb265, 4, none⟩ = some (.slice Ao122 y286.length co122) := (blk_cell BK265.out 4).trans rfl; have hfz125_0 := blk_frozen BK265.out 0; have hfz125_1 := blk_frozen BK265.out 1; have hfz125_2 := blk_frozen BK265.out 2; have hfz125_3 := blk_frozen BK265.out 3; have hfz125_4 := blk_frozen BK265.out 4) | (go_at_call 28; (with_reducible refine (note_PutConfig.calls kj4 x266000_4 x266001_4 x266002_4 x266003_4 _ _ y286 t292 _ ?side1 ?side2 A119.out).mono ?_); (case side1 => repeat (first | exact (Kd.R_reads' HO288.out).2.2 | (with_reducible refine Kd.C_alloc ?_ _) | (with_reducible refine Kd.C_drewN ?_ _) | (with_reducible refine Kd.C_drew ?_))); (case side2 => exact (Kd.R_reads' HO288.out).2.1); rintro e w126 ⟨rfl, hb⟩; have n0_ := Aside0.mk (Kd.R_below (by (with_reducible repeat (first | apply Kd.R_alloc | apply Kd.R_drewN | apply Kd.R_drew)); exact HO288.out) hb); have n1_ := Aside0.mk (blk_below (g := gb265) (o := .cells #[.int .i64 x266000_4, .int .i64 x266001_4, .int .i64 x266002_4, .int .i64 x266003_4, .slice Ao122 y286.length co122] 24 (0, 0)) (by (with_reducible repeat (first | refine blk_drewN ?_ _ | refine blk_drew ?_ | refine blk_alloc ?_ _)); exact BK265.out) hb); have n2_ := Aside0.mk (below_step (by repeat (first | (with_reducible first | exact HB.out | apply below_alloc | apply pw_below_drewN | apply below_drew1 | refine below_set ?_ GE265.out) | exact HB.out)) hb); clear HO288; clear BK265; clear HB; have HO288 := n0_; have BK265 := n1_; have HB := n2_; clear n0_ n1_ n2_; (try clear hb); (try clear hb2); (try clear hk); (try clear hi)))
            go_ret
            exact ⟨by first | rfl | exact nil_eq1 _ _ | exact nil_eq2 _ | exact nil_eq3 _ | (simp [errW_none, errW_some] <;> rfl) | (simp [*, errW_none, errW_some] <;> rfl), by repeat (first | (with_reducible first | exact HB.out | apply below_alloc | apply pw_below_drewN | apply below_drew1 | refine below_set ?_ GE265.out) | exact HB.out)⟩
           ·rw [if_neg c118] at H
            exact absurd H (by simp)
         ·rw [if_neg c105] at H
          have c105b0 : decide ((y286.length : Int) ≤ 6) = false := decide_eq_false c105
          have c105b1 : decide (y286.length ≤ 6) = false := decide_eq_false (by omega)
          clear c105
          replace H := Option.bind_eq_some_iff.mp H
          obtain ⟨t293, A1270, H⟩ := H
          have A127 := Aside0.mk A1270
          clear A1270
          by_cases c128 : (t293 == false) = true
          ·rw [if_pos c128] at H
           have c128b0 : (t293 == false) = true := c128
           (try (have c128b1 : decide (t293 = false) = true := by simpa using c128))
           (try (have c128b2 : (t293 == false) = true := by simpa using c128))
           clear c128
           replace H := Option.bind_eq_some_iff.mp H
           obtain ⟨t294, A1290, H⟩ := H
           have A129 := Aside0.mk A1290
           clear A1290
           obtain rfl := Option.some.inj H
           have hcz130_0 : wc.cell? ⟨gb265, 0, none⟩ = some (.int .i64 x266000_4) := (blk_cell BK265.out 0).trans rfl
           have hcz130_1 : wc.cell? ⟨gb265, 1, none⟩ = some (.int .i64 x266001_4) := (blk_cell BK265.out 1).trans rfl
           have hcz130_2 : wc.cell? ⟨gb265, 2, none⟩ = some (.int .i64 x266002_4) := (blk_cell BK265.out 2).trans rfl
           have hcz130_3 : wc.cell? ⟨gb265, 3, none⟩ = some (.int .i64 x266003_4) := (blk_cell BK265.out 3).trans rfl
           have hcz130_4 : wc.cell? ⟨gb265, 4, none⟩ = some (u266004) := (blk_cell BK265.out 4).trans rfl
           have hfz130_0 := blk_frozen BK265.out 0
           have hfz130_1 := blk_frozen BK265.out 1
           have hfz130_2 := blk_frozen BK265.out 2
           have hfz130_3 := blk_frozen BK265.out 3
           have hfz130_4 := blk_frozen BK265.out 4
           go_wp2_with (first | ((with_reducible refine gate_builtin (b := .append) (xs := #[.tmp 22, .tmp 24]) rfl ?_); (try (refine gate_guard (by rfl) ?_; dsimp only)); at_builtin; refine Kd.R_append (Kd.int .i64) (w0 := w) w.heap.size rfl (.tmp 22) (.tmp 24) 22 3 (.int .i64 0) 8 rfl Tryz.underlying22 info3 rfl (by decide) (by decide) u266004 x266004_4 (Int.tmod a1 4) [.int .i64 (Int.tmod a1 4)] (fun _ => True) (fun _ => False) rfl rfl ?aP (fun _ hk => hk.elim) ?aF ?aO ?aB ?aS ?aL ?_; (case aP => exact rfl); (case aB => exact (by repeat (first | (with_reducible first | exact HB.out | apply below_alloc | apply pw_below_drewN | apply below_drew1 | refine below_set ?_ GE265.out) | exact HB.out))); (case aF => exact (fun _ _ => trivial)); (case aO => exact (by (with_reducible repeat (first | apply Kd.R_alloc | apply Kd.R_drewN | apply Kd.R_drew)); exact HO_266004.out)); (case aS => exact (below_size (by repeat (first | (with_reducible first | exact HB.out | apply below_alloc | apply pw_below_drewN | apply below_drew1 | refine below_set ?_ GE265.out) | exact HB.out)))); (case aL => have := LMc104.out; omega); intro v287 w131 ho hb hg hat; rw [← Ny286.out] at ho; have n0_ := Aside0.mk (blk_grown (g := gb265) (o := .cells #[.int .i64 x266000_4, .int .i64 x266001_4, .int .i64 x266002_4, .int .i64 x266003_4, u266004] 24 (0, 0)) (by (with_reducible repeat (first | refine blk_drewN ?_ _ | refine blk_drew ?_ | refine blk_alloc ?_ _)); exact BK265.out) hg (Kd.R_ne HO_266004.out BK265.out (by decide))); have n1_ := Aside0.mk (hb); have n2_ := Aside0.mk (ho); clear BK265; clear HB; clear HO_266004; have BK265 := n0_; have HB := n1_; have HO288 := n2_; clear n0_ n1_ n2_; clear ho hb hg hat; obtain ⟨Ao132, co132, eo132⟩ := Kd.R_slice HO288.out; subst eo132; have hcz133_0 : w131.cell? ⟨gb265, 0, none⟩ = some (.int .i64 x266000_4) := (blk_cell BK265.out 0).trans rfl; have hcz133_1 : w131.cell? ⟨gb265, 1, none⟩ = some (.int .i64 x266001_4) := (blk_cell BK265.out 1).trans rfl; have hcz133_2 : w131.cell? ⟨gb265, 2, none⟩ = some (.int .i64 x266002_4) := (blk_cell BK265.out 2).trans rfl; have hcz133_3 : w131.cell? ⟨gb265, 3, none⟩ = some (.int .i64 x266003_4) := (blk_cell BK265.out 3).trans rfl; have hcz133_4 : w131.cell? ⟨gb265, 4, none⟩ = some (u266004) := (blk_cell BK265.out 4).trans rfl; have hfz133_0 := blk_frozen BK265.out 0; have hfz133_1 := blk_frozen BK265.out 1; have hfz133_2 := blk_frozen BK265.out 2; have hfz133_3 := blk_frozen BK265.out 3; have hfz133_4 := blk_frozen BK265.out 4) | ((with_reducible refine gate_callee (f := 16) rfl ?_); refine goesL_ (some 113) rfl rfl Tryz.func16 (by kernel_rfl) rfl #[.agg #[.int .i64 x266000_4, .int .i64 x266001_4, .int .i64 x266002_4, .int .i64 x266003_4, .slice Ao132 y286.length co132]] rfl (by (try simp only [List.map_toArray, List.map_cons, List.map_nil]); first | done | rfl | (simp only [List.length_drop, List.length_take]; rfl)) ?_; (with_reducible refine (rule_Config.calls x266000_4 x266001_4 x266002_4 x266003_4 _ _ y286 t293 _ ?side1 ?side2 A127.out).mono ?_); (case side1 => refine (Kd.R_reads' (e := 3) (base := w.heap.size) (ok := fun k_ => True) (n := y286.length) (c := co132) ?_).2.2; exact (by (with_reducible repeat (first | apply Kd.R_alloc | apply Kd.R_drewN | apply Kd.R_drew)); exact (Kd.R_mono (Kd.R_far (p := ⟨gb265, 4, none⟩) (Kd.R_types HO288.out BK265.out (by decide)) (fun _ hk => hk.2) (.slice Ao132 y286.length co132)) (fun _ h_ => h_.1)))); (case side2 => exact (Kd.R_reads' HO288.out).2.1); rintro e w134 ⟨rfl, hb⟩; refine ⟨_, rfl, ?_⟩; have n0_ := Aside0.mk (Kd.R_below (by (with_reducible repeat (first | apply Kd.R_alloc | apply Kd.R_drewN | apply Kd.R_drew)); exact (Kd.R_mono (Kd.R_far (p := ⟨gb265, 4, none⟩) (Kd.R_types HO288.out BK265.out (by decide)) (fun _ hk => hk.2) (.slice Ao132 y286.length co132)) (fun _ h_ => h_.1))) hb); have n1_ := Aside0.mk (blk_below (g := gb265) (o := .cells #[.int .i64 x266000_4, .int .i64 x266001_4, .int .i64 x266002_4, .int .i64 x266003_4, .slice Ao132 y286.length co132] 24 (0, 0)) (by (with_reducible repeat (first | refine blk_drewN ?_ _ | refine blk_drew ?_ | refine blk_alloc ?_ _)); refine blk_put (cs := #[.int .i64 x266000_4, .int .i64 x266001_4, .int .i64 x266002_4, .int .i64 x266003_4, u266004]) ?_ 4 _ rfl; (with_reducible repeat (first | refine blk_drewN ?_ _ | refine blk_drew ?_ | refine blk_alloc ?_ _)); exact BK265.out) hb); have n2_ := Aside0.mk (below_step (by repeat (first | (with_reducible first | exact HB.out | apply below_alloc | apply pw_below_drewN | apply below_drew1 | refine below_set ?_ GE265.out) | exact HB.out)) hb); clear HO288; clear BK265; clear HB; have HO288 := n0_; have BK265 := n1_; have HB := n2_; clear n0_ n1_ n2_; (try clear hb); (try clear hb2); (try clear hk); (try clear hi); have hcz135_0 : w134.cell? ⟨gb265, 0, none⟩ = some (.int .i64 x266000_4) := (blk_cell BK265.out 0).trans rfl; have hcz135_1 : w134.cell? ⟨gb265, 1, none⟩ = some (.int .i64 x266001_4) := (blk_cell BK265.out 1).trans rfl; have hcz135_2 : w134.cell? ⟨gb265, 2, none⟩ = some (.int .i64 x266002_4) := (blk_cell BK265.out 2).trans rfl; have hcz135_3 : w134.cell? ⟨gb265, 3, none⟩ = some (.int .i64 x266003_4) := (blk_cell BK265.out 3).trans rfl; have hcz135_4 : w134.cell? ⟨gb265, 4, none⟩ = some (.slice Ao132 y286.length co132) := (blk_cell BK265.out 4).trans rfl; have hfz135_0 := blk_frozen BK265.out 0; have hfz135_1 := blk_frozen BK265.out 1; have hfz135_2 := blk_frozen BK265.out 2; have hfz135_3 := blk_frozen BK265.out 3; have hfz135_4 := blk_frozen BK265.out 4) | (go_at_call 28; (with_reducible refine (note_PutConfig.calls kj4 x266000_4 x266001_4 x266002_4 x266003_4 _ _ y286 t294 _ ?side1 ?side2 A129.out).mono ?_); (case side1 => repeat (first | exact (Kd.R_reads' HO288.out).2.2 | (with_reducible refine Kd.C_alloc ?_ _) | (with_reducible refine Kd.C_drewN ?_ _) | (with_reducible refine Kd.C_drew ?_))); (case side2 => exact (Kd.R_reads' HO288.out).2.1); rintro e w136 ⟨rfl, hb⟩; have n0_ := Aside0.mk (Kd.R_below (by (with_reducible repeat (first | apply Kd.R_alloc | apply Kd.R_drewN | apply Kd.R_drew)); exact HO288.out) hb); have n1_ := Aside0.mk (blk_below (g := gb265) (o := .cells #[.int .i64 x266000_4, .int .i64 x266001_4, .int .i64 x266002_4, .int .i64 x266003_4, .slice Ao132 y286.length co132] 24 (0, 0)) (by (with_reducible repeat (first | refine blk_drewN ?_ _ | refine blk_drew ?_ | refine blk_alloc ?_ _)); exact BK265.out) hb); have n2_ := Aside0.mk (below_step (by repeat (first | (with_reducible first | exact HB.out | apply below_alloc | apply pw_below_drewN | apply below_drew1 | refine below_set ?_ GE265.out) | exact HB.out)) hb); clear HO288; clear BK265; clear HB; have HO288 := n0_; have BK265 := n1_; have HB := n2_; clear n0_ n1_ n2_; (try clear hb); (try clear hb2); (try clear hk); (try clear hi)))
           go_ret
           exact ⟨by first | rfl | exact nil_eq1 _ _ | exact nil_eq2 _ | exact nil_eq3 _ | (simp [errW_none, errW_some] <;> rfl) | (simp [*, errW_none, errW_some] <;> rfl), by repeat (first | (with_reducible first | exact HB.out | apply below_alloc | apply pw_below_drewN | apply below_drew1 | refine below_set ?_ GE265.out) | exact HB.out)⟩
          ·rw [if_neg c128] at H
           exact absurd H (by simp)
        ·rw [if_neg c104] at H
         exact absurd H (by simp)
 ·replace c4 := Bool.eq_false_iff.mpr c4
  subst c4
  have H1 : (none) = some r := by rw [if_neg (show ¬ (false = true) by decide)] at H; exact H
  clear H
  have H := H1
  clear H1
  exact absurd H (by simp)

end Go.Proofs.YtjjlicancbmjiaaGreatDoor.PBeg
