-- Written by a program of this session (wip/pp.py) over the kit's print, with hand-proved contracts beside it.
import Derived.Test.YtddepomgaeadpaaGreatDoorPAllx0
import Derived.Test.YtddepomgaeadpaaGreatDoorPAllx1
import Derived.Test.YtddepomgaeadpaaGreatDoorPAllx4
namespace Go.Proofs.YtddepomgaeadpaaGreatDoor.PAll
open Go.Shelf Go.Lib Go.RowKit Go.Proofs.YtddepomgaeadpaaGreatDoorW.PrintWords Go.Proofs.YtddepomgaeadpaaGreatDoorW.PrintLast Go.Proofs.YtddepomgaeadpaaGreatDoorW.PrintMore
attribute [local go_sem] max2_int min2_int max_two min_two max_three min_three max_four min_four   -- for this text's walks alone
set_option linter.unusedVariables false
set_option linter.unusedSimpArgs false

/-! ### hortatorlaw9_BusyOne: function 11 -/
def hortatorlaw9_BusyOne.f (k : Nat) (a0 : Int) (a1 : Int) : Option (Bool) := (hortatorlaw9_begun.f k).bind fun t346 => (if t346 = true then ((busy_Time.f k (([(⟨wrap64 (1 + (Go.bits .and .i64 a0 255)), wrap64 (1 + (Go.bits .and .i64 a1 127)), wrap64 (1 + (Go.bits .and .i64 a1 127))⟩ : S31)] : List (S31)))).bind fun bt350 => (if (bt350.2 == (decide ((wrap64 (1 + (Go.bits .and .i64 a0 255))) ≤ (wrap64 (1 + (Go.bits .and .i64 a1 127)))))) = true then (if bt350.2 = true then (some (bt350.1 == (wrap64 (1 + (Go.bits .and .i64 a0 255))))) else (some true)) else (none))) else (none))
set_option maxHeartbeats 8000000 in
set_option maxRecDepth 100000 in
theorem hortatorlaw9_BusyOne.calls (k : Nat) (a0 : Int) (a1 : Int) (r : Bool) (w : World) (h : hortatorlaw9_BusyOne.f k a0 a1 = some r) :
  Calls Tryz.prog 11 #[.int .i64 a0, .int .i64 a1] w fun e w' => e = .returned (.bool r) ∧ Below w.heap.size w w' := by
 have hu31 := Tryz.underlying31
 have HB := Aside0.mk (Below.refl w.heap.size w)
 have H : ((hortatorlaw9_begun.f k).bind fun t346 => (if t346 = true then ((busy_Time.f k (([(⟨wrap64 (1 + (Go.bits .and .i64 a0 255)), wrap64 (1 + (Go.bits .and .i64 a1 127)), wrap64 (1 + (Go.bits .and .i64 a1 127))⟩ : S31)] : List (S31)))).bind fun bt350 => (if (bt350.2 == (decide ((wrap64 (1 + (Go.bits .and .i64 a0 255))) ≤ (wrap64 (1 + (Go.bits .and .i64 a1 127)))))) = true then (if bt350.2 = true then (some (bt350.1 == (wrap64 (1 + (Go.bits .and .i64 a0 255))))) else (some true)) else (none))) else (none))) = some r := h
 clear h
 replace H := Option.bind_eq_some_iff.mp H
 obtain ⟨t346, A30, H⟩ := H
 have A3 := Aside0.mk A30
 clear A30
 by_cases c4 : t346 = true
 ·subst c4
  have H1 : ((busy_Time.f k (([(⟨wrap64 (1 + (Go.bits .and .i64 a0 255)), wrap64 (1 + (Go.bits .and .i64 a1 127)), wrap64 (1 + (Go.bits .and .i64 a1 127))⟩ : S31)] : List (S31)))).bind fun bt350 => (if (bt350.2 == (decide ((wrap64 (1 + (Go.bits .and .i64 a0 255))) ≤ (wrap64 (1 + (Go.bits .and .i64 a1 127)))))) = true then (if bt350.2 = true then (some (bt350.1 == (wrap64 (1 + (Go.bits .and .i64 a0 255))))) else (some true)) else (none))) = some r := by rw [if_pos rfl] at H; exact H
  clear H
  have H := H1
  clear H1
  obtain ⟨y347, hy347⟩ : ∃ y_ : List (S31), y_ = (([(⟨wrap64 (1 + (Go.bits .and .i64 a0 255)), wrap64 (1 + (Go.bits .and .i64 a1 127)), wrap64 (1 + (Go.bits .and .i64 a1 127))⟩ : S31)] : List (S31))) := ⟨_, rfl⟩
  replace H : ((busy_Time.f k y347).bind fun bt350 => (if (bt350.2 == (decide ((wrap64 (1 + (Go.bits .and .i64 a0 255))) ≤ (wrap64 (1 + (Go.bits .and .i64 a1 127)))))) = true then (if bt350.2 = true then (some (bt350.1 == (wrap64 (1 + (Go.bits .and .i64 a0 255))))) else (some true)) else (none))) = some r := by (rw [hy347]; with_reducible exact H)
  have Ny347 := Aside0.mk hy347
  clear hy347
  replace H := Option.bind_eq_some_iff.mp H
  obtain ⟨⟨t350, t351⟩, A50, H⟩ := H
  have A5 := Aside0.mk A50
  clear A50
  by_cases c6 : (t351 == (decide ((wrap64 (1 + (Go.bits .and .i64 a0 255))) ≤ (wrap64 (1 + (Go.bits .and .i64 a1 127)))))) = true
  ·rw [if_pos c6] at H
   have c6b0 : (t351 == (decide ((wrap64 (1 + (Go.bits .and .i64 a0 255))) ≤ (wrap64 (1 + (Go.bits .and .i64 a1 127)))))) = true := c6
   (try (have c6b1 : decide (t351 = (decide ((wrap64 (1 + (Go.bits .and .i64 a0 255))) ≤ (wrap64 (1 + (Go.bits .and .i64 a1 127)))))) = true := by simpa using c6))
   (try (have c6b2 : (t351 == (decide ((wrap64 (1 + (Go.bits .and .i64 a0 255))) ≤ (wrap64 (1 + (Go.bits .and .i64 a1 127)))))) = true := by simpa using c6))
   clear c6
   by_cases c7 : t351 = true
   ·subst c7
    have H1 : (some (t350 == (wrap64 (1 + (Go.bits .and .i64 a0 255))))) = some r := by rw [if_pos rfl] at H; exact H
    clear H
    have H := H1
    clear H1
    obtain rfl := Option.some.inj H
    go_enter Tryz.func11, Tryz.ntmps11
    go_wp2_with (first | ((with_reducible refine gate_callee (f := 23) rfl ?_); refine goesL_ (some 8) rfl rfl Tryz.func23 (by kernel_rfl) rfl #[] rfl (by (try simp only [List.map_toArray, List.map_cons, List.map_nil]); (done)) ?_; (with_reducible refine (hortatorlaw9_begun.calls k  true _ A3.out).mono ?_); rintro e w8 ⟨rfl, hb⟩; refine ⟨_, rfl, ?_⟩; have n0_ := Aside0.mk (below_step (by repeat ((with_reducible (exact HB.out)))) hb); clear HB; have HB := n0_; clear n0_; (try clear hb); (try clear hb2); (try clear hk); (try clear hi)) | ((with_reducible refine gate_dst (N := 22) rfl ?_); refine Kd.R_lit k31 _ 31 ?hg (N := 22) ?hd (xs := ([(⟨wrap64 (1 + (Go.bits .and .i64 a0 255)), wrap64 (1 + (Go.bits .and .i64 a1 127)), wrap64 (1 + (Go.bits .and .i64 a1 127))⟩ : S31)] : List (S31))) (inner := [.int .i64 (wrap64 (1 + (Go.bits .and .i64 a0 255))), .int .i64 (wrap64 (1 + (Go.bits .and .i64 a1 127))), .int .i64 (wrap64 (1 + (Go.bits .and .i64 a1 127)))]) (ok := fun _ => True) (okp := fun _ => True) ?hr ?hp (fun _ hk => hk) trivial (Below.refl _ _) (Nat.le_refl _) (by simp) ?_; (case hd => rfl); (case hg => rfl); (case hr => (go_simp; done)); (case hp => exact (Reps.c3 (show Kd.M k31 _ _ _ (⟨wrap64 (1 + (Go.bits .and .i64 a0 255)), wrap64 (1 + (Go.bits .and .i64 a1 127)), wrap64 (1 + (Go.bits .and .i64 a1 127))⟩ : S31) [.int .i64 (wrap64 (1 + (Go.bits .and .i64 a0 255))), .int .i64 (wrap64 (1 + (Go.bits .and .i64 a1 127))), .int .i64 (wrap64 (1 + (Go.bits .and .i64 a1 127)))] from (k31_mkM _ _ _ (⟨wrap64 (1 + (Go.bits .and .i64 a0 255)), wrap64 (1 + (Go.bits .and .i64 a1 127)), wrap64 (1 + (Go.bits .and .i64 a1 127))⟩ : S31) )) (Reps.none _ _))); intro v348 w9 ho10 hb hg_ hnew_; clear hg_ hnew_; ((rw [← Ny347.out] at ho10)); have n0_ := Aside0.mk (Kd.R_lower ho10 (below_size (by repeat ((with_reducible (exact HB.out)))))); have n1_ := Aside0.mk (below_step (by repeat ((with_reducible (exact HB.out)))) hb); clear HB; have HO349 := n0_; have HB := n1_; clear n0_ n1_; clear hb ho10; obtain ⟨Ao11, co11, eo11⟩ := Kd.R_slice HO349.out; subst eo11) | ((with_reducible refine gate_callee (f := 25) rfl ?_); refine goesL_ (some 23) rfl rfl Tryz.func25 (by kernel_rfl) rfl #[.slice Ao11 y347.length co11] rfl (by (try simp only [List.map_toArray, List.map_cons, List.map_nil]); (rfl)) ?_; (with_reducible refine (busy_Time.calls k _ _ y347 t350 true _ ?side1 ?side2 A5.out).mono ?_); (case side1 => repeat ((exact (Kd.R_reads' HO349.out).2.2))); (case side2 => exact (Kd.R_reads' HO349.out).2.1); rintro e w12 ⟨rfl, hb⟩; refine ⟨_, rfl, ?_⟩; have n0_ := Aside0.mk (Kd.R_below (by exact HO349.out) hb); have n1_ := Aside0.mk (below_step (by repeat ((with_reducible (exact HB.out)))) hb); clear HO349; clear HB; have HO349 := n0_; have HB := n1_; clear n0_ n1_; (try clear hb); (try clear hb2); (try clear hk); (try clear hi)))
    go_ret
    exact ⟨by (rfl), by repeat ((with_reducible (exact HB.out)))⟩
   ·replace c7 := Bool.eq_false_iff.mpr c7
    subst c7
    have H1 : (some true) = some r := by rw [if_neg (show ¬ (false = true) by decide)] at H; exact H
    clear H
    have H := H1
    clear H1
    obtain rfl := Option.some.inj H
    go_enter Tryz.func11, Tryz.ntmps11
    go_wp2_with (first | ((with_reducible refine gate_callee (f := 23) rfl ?_); refine goesL_ (some 8) rfl rfl Tryz.func23 (by kernel_rfl) rfl #[] rfl (by (try simp only [List.map_toArray, List.map_cons, List.map_nil]); (done)) ?_; (with_reducible refine (hortatorlaw9_begun.calls k  true _ A3.out).mono ?_); rintro e w13 ⟨rfl, hb⟩; refine ⟨_, rfl, ?_⟩; have n0_ := Aside0.mk (below_step (by repeat ((with_reducible (exact HB.out)))) hb); clear HB; have HB := n0_; clear n0_; (try clear hb); (try clear hb2); (try clear hk); (try clear hi)) | ((with_reducible refine gate_dst (N := 22) rfl ?_); refine Kd.R_lit k31 _ 31 ?hg (N := 22) ?hd (xs := ([(⟨wrap64 (1 + (Go.bits .and .i64 a0 255)), wrap64 (1 + (Go.bits .and .i64 a1 127)), wrap64 (1 + (Go.bits .and .i64 a1 127))⟩ : S31)] : List (S31))) (inner := [.int .i64 (wrap64 (1 + (Go.bits .and .i64 a0 255))), .int .i64 (wrap64 (1 + (Go.bits .and .i64 a1 127))), .int .i64 (wrap64 (1 + (Go.bits .and .i64 a1 127)))]) (ok := fun _ => True) (okp := fun _ => True) ?hr ?hp (fun _ hk => hk) trivial (Below.refl _ _) (Nat.le_refl _) (by simp) ?_; (case hd => rfl); (case hg => rfl); (case hr => (go_simp; done)); (case hp => exact (Reps.c3 (show Kd.M k31 _ _ _ (⟨wrap64 (1 + (Go.bits .and .i64 a0 255)), wrap64 (1 + (Go.bits .and .i64 a1 127)), wrap64 (1 + (Go.bits .and .i64 a1 127))⟩ : S31) [.int .i64 (wrap64 (1 + (Go.bits .and .i64 a0 255))), .int .i64 (wrap64 (1 + (Go.bits .and .i64 a1 127))), .int .i64 (wrap64 (1 + (Go.bits .and .i64 a1 127)))] from (k31_mkM _ _ _ (⟨wrap64 (1 + (Go.bits .and .i64 a0 255)), wrap64 (1 + (Go.bits .and .i64 a1 127)), wrap64 (1 + (Go.bits .and .i64 a1 127))⟩ : S31) )) (Reps.none _ _))); intro v348 w14 ho15 hb hg_ hnew_; clear hg_ hnew_; ((rw [← Ny347.out] at ho15)); have n0_ := Aside0.mk (Kd.R_lower ho15 (below_size (by repeat ((with_reducible (exact HB.out)))))); have n1_ := Aside0.mk (below_step (by repeat ((with_reducible (exact HB.out)))) hb); clear HB; have HO349 := n0_; have HB := n1_; clear n0_ n1_; clear hb ho15; obtain ⟨Ao16, co16, eo16⟩ := Kd.R_slice HO349.out; subst eo16) | ((with_reducible refine gate_callee (f := 25) rfl ?_); refine goesL_ (some 23) rfl rfl Tryz.func25 (by kernel_rfl) rfl #[.slice Ao16 y347.length co16] rfl (by (try simp only [List.map_toArray, List.map_cons, List.map_nil]); (rfl)) ?_; (with_reducible refine (busy_Time.calls k _ _ y347 t350 false _ ?side1 ?side2 A5.out).mono ?_); (case side1 => repeat ((exact (Kd.R_reads' HO349.out).2.2))); (case side2 => exact (Kd.R_reads' HO349.out).2.1); rintro e w17 ⟨rfl, hb⟩; refine ⟨_, rfl, ?_⟩; have n0_ := Aside0.mk (Kd.R_below (by exact HO349.out) hb); have n1_ := Aside0.mk (below_step (by repeat ((with_reducible (exact HB.out)))) hb); clear HO349; clear HB; have HO349 := n0_; have HB := n1_; clear n0_ n1_; (try clear hb); (try clear hb2); (try clear hk); (try clear hi)))
    go_ret
    exact ⟨by (rfl), by repeat ((with_reducible (exact HB.out)))⟩
  ·rw [if_neg c6] at H
   exact absurd H (by simp)
 ·replace c4 := Bool.eq_false_iff.mpr c4
  subst c4
  have H1 : (none) = some r := by rw [if_neg (show ¬ (false = true) by decide)] at H; exact H
  clear H
  have H := H1
  clear H1
  exact absurd H (by simp)

end Go.Proofs.YtddepomgaeadpaaGreatDoor.PAll
