-- Written by a program of this session (wip/pp.py) over the kit's print, with hand-proved contracts beside it.
import Derived.Test.YtjkicgbmdloomaaPTickx0
import Derived.Test.YtjkicgbmdloomaaPTickx2
import Derived.Test.YtjkicgbmdloomaaPTickx3
namespace Go.Proofs.Ytjkicgbmdloomaa.PTick
open Go.RowKit Go.Proofs.YtjkicgbmdloomaaW.PrintWords Go.Proofs.YtjkicgbmdloomaaW.PrintLast Go.Proofs.YtjkicgbmdloomaaW.PrintMore
attribute [local go_sem] max2_int min2_int max_two min_two max_three min_three max_four min_four   -- for this text's walks alone
set_option linter.unusedVariables false
set_option linter.unusedSimpArgs false

/-! ### hortatorlaw1_TickRound: function 6 -/
def hortatorlaw1_TickRound.j0 : Nat → Int → Int → Int → Bool → Option (Bool)
  | 0, _, _, _, _ => none
  | k + 1, x0, x1, x2, x26 => if x26 = true then (some true) else ((tick_Up.f x0 x1).bind fun t221 => ((tick_Down.f x0 x1).bind fun t222 => (if (wrap64 (t222 * x1)) ≤ x0 then (if (wrap64 (t221 * x1)) ≥ x0 then (if (wrap64 (t221 - t222)) ≤ 1 then (if x1 = 0 then (none) else (if ((t221 == t222) == ((Int.tmod x0 x1) == 0)) = true then ((tick_Up.f (wrap64 ((Int.tmod x2 1048576) * x1)) x1).bind fun t223 => (if t223 = (Int.tmod x2 1048576) then ((tick_Down.f (wrap64 ((Int.tmod x2 1048576) * x1)) x1).bind fun t224 => (if t224 = (Int.tmod x2 1048576) then ((tick_Up.f x0 x1).bind fun t225 => ((tick_Down.f (wrap64 (-x0)) x1).bind fun t226 => (some (t225 == (wrap64 (-t226)))))) else (some false))) else (some false))) else (some false))) else (some false)) else (some false)) else (some false))))
def hortatorlaw1_TickRound.f (k : Nat) (a0 : Int) (a1 : Int) (a2 : Int) : Option (Bool) := (hortatorlaw1_begun.f k).bind fun t220 => (if t220 = true then (if a1 < 1 then (hortatorlaw1_TickRound.j0 k a0 a1 a2 true) else (if a1 > 2147483648 then (hortatorlaw1_TickRound.j0 k a0 a1 a2 true) else (if a0 > 2147483648 then (hortatorlaw1_TickRound.j0 k a0 a1 a2 true) else (hortatorlaw1_TickRound.j0 k a0 a1 a2 (decide (a0 < (-2147483648))))))) else (some false))
theorem hortatorlaw1_TickRound.mono_l : ∀ k, (∀ y0 y1 y2 y3, LeO (hortatorlaw1_TickRound.j0 k y0 y1 y2 y3) (hortatorlaw1_TickRound.j0 (k + 1) y0 y1 y2 y3))
  | 0 => fun _ _ _ _ r h => by simp [hortatorlaw1_TickRound.j0] at h
  | k + 1 => by
    have ih0 := hortatorlaw1_TickRound.mono_l k
    · intro y0 y1 y2 y3
      unfold hortatorlaw1_TickRound.j0
      repeat' first
      | (with_reducible exact ih0 _ _ _ _)
      | (with_reducible exact hortatorlaw1_begun.mono _)
      | (with_reducible exact LeO.refl _)
      | (with_reducible exact LeO.none _)
      | (with_reducible refine LeO.ite ?_ ?_)
      | (with_reducible refine LeO.bind ?_ (fun _ => ?_))
      | exact ih0 _ _ _ _
      | exact hortatorlaw1_begun.mono _
      | exact LeO.none _
      | refine LeO.ite ?_ ?_
      | refine LeO.bind ?_ (fun _ => ?_)
theorem hortatorlaw1_TickRound.mono : ∀ a0 a1 a2 k, LeO (hortatorlaw1_TickRound.f k a0 a1 a2) (hortatorlaw1_TickRound.f (k + 1) a0 a1 a2) := by
  intro a0 a1 a2 k
  have ih0 := hortatorlaw1_TickRound.mono_l k
  unfold hortatorlaw1_TickRound.f
  repeat' first
      | (with_reducible exact ih0 _ _ _ _)
      | (with_reducible exact hortatorlaw1_begun.mono _)
      | (with_reducible exact LeO.refl _)
      | (with_reducible exact LeO.none _)
      | (with_reducible refine LeO.ite ?_ ?_)
      | (with_reducible refine LeO.bind ?_ (fun _ => ?_))
      | exact ih0 _ _ _ _
      | exact hortatorlaw1_begun.mono _
      | exact LeO.none _
      | refine LeO.ite ?_ ?_
      | refine LeO.bind ?_ (fun _ => ?_)
set_option maxHeartbeats 8000000 in
set_option maxRecDepth 100000 in
theorem hortatorlaw1_TickRound.calls (k : Nat) (a0 : Int) (a1 : Int) (a2 : Int) (r : Bool) (w : World) (h : hortatorlaw1_TickRound.f k a0 a1 a2 = some r) :
    Calls Try.prog 6 #[.int .i64 a0, .int .i64 a1, .int .i64 a2] w fun e w' => e = .returned (.bool r) ∧ Below w.heap.size w w' := by
  have HB := Aside0.mk (Below.refl w.heap.size w)
  have H : ((hortatorlaw1_begun.f k).bind fun t220 => (if t220 = true then (if a1 < 1 then (hortatorlaw1_TickRound.j0 k a0 a1 a2 true) else (if a1 > 2147483648 then (hortatorlaw1_TickRound.j0 k a0 a1 a2 true) else (if a0 > 2147483648 then (hortatorlaw1_TickRound.j0 k a0 a1 a2 true) else (hortatorlaw1_TickRound.j0 k a0 a1 a2 (decide (a0 < (-2147483648))))))) else (some false))) = some r := h
  clear h
  replace H := Option.bind_eq_some_iff.mp H
  obtain ⟨t220, A40, H⟩ := H
  replace H : (if t220 = true then (if a1 < 1 then (hortatorlaw1_TickRound.j0 k a0 a1 a2 true) else (if a1 > 2147483648 then (hortatorlaw1_TickRound.j0 k a0 a1 a2 true) else (if a0 > 2147483648 then (hortatorlaw1_TickRound.j0 k a0 a1 a2 true) else (hortatorlaw1_TickRound.j0 k a0 a1 a2 (decide (a0 < (-2147483648))))))) else (some false)) = some r := H
  have A4 := Aside0.mk A40
  clear A40
  by_cases c5 : t220 = true
  · subst c5
    have H1 : (if a1 < 1 then (hortatorlaw1_TickRound.j0 k a0 a1 a2 true) else (if a1 > 2147483648 then (hortatorlaw1_TickRound.j0 k a0 a1 a2 true) else (if a0 > 2147483648 then (hortatorlaw1_TickRound.j0 k a0 a1 a2 true) else (hortatorlaw1_TickRound.j0 k a0 a1 a2 (decide (a0 < (-2147483648))))))) = some r := by rw [if_pos rfl] at H; exact H
    clear H
    have H := H1
    clear H1
    have HC6 := Aside0.mk H
    clear H
    go_enter Try.func6, Try.ntmps6
    go_upto_region 4 with (first | ((with_reducible refine gate_callee (f := 11) rfl ?_); refine goesL_ (some 10) rfl rfl Try.func11 (by kernel_rfl) rfl #[] rfl (by (try simp only [List.map_toArray, List.map_cons, List.map_nil]); first | done | rfl | (simp only [List.length_drop, List.length_take]; rfl)) ?_; (with_reducible refine (hortatorlaw1_begun.calls k  true _ A4.out).mono ?_); rintro e w7 ⟨rfl, hb⟩; refine ⟨_, rfl, ?_⟩; have n0_ := Aside0.mk (below_step (by repeat (first | (with_reducible first | exact HB.out | apply below_alloc | apply pw_below_drewN | apply below_drew1) | exact HB.out)) hb); clear HB; have HB := n0_; clear n0_; (try clear hb); (try clear hb2); (try clear hk); (try clear hi)))
    (try simp only [Act.put, List.setIfInBounds_toArray, List.set_cons_zero, List.set_cons_succ])
    go_cut [26] (fun v26 wc => ∃ (kq : Nat) (x26_5 : Bool), v26 = .bool x26_5 ∧ Aside0 (hortatorlaw1_TickRound.j0 kq a0 a1 a2 x26_5 = some r) ∧ Aside0 (kq ≤ k) ∧ Aside0 (Below w.heap.size w wc))
    case first =>
      have H := HC6.out
      clear HC6
      by_cases c8 : a1 < 1
      · rw [if_pos c8] at H
        have c8b0 : decide (a1 < 1) = true := decide_eq_true c8
        clear c8
        (first | rw [c8b0] | (simp only [i64_w, i32_w]; rw [c8b0]) | skip)
        have H' := Aside0.mk H
        clear H
        go_wp2
        go_meet
        case rel => exact ⟨_, (true), (by first | rfl | (simp; done) | (simp [*]; done)), H', ⟨by first | omega | exact Nat.le_refl _⟩, ⟨by repeat (first | (with_reducible first | exact HB.out | apply below_alloc | apply pw_below_drewN | apply below_drew1) | exact HB.out)⟩⟩
      · rw [if_neg c8] at H
        have c8b0 : decide (a1 < 1) = false := decide_eq_false c8
        clear c8
        (first | rw [c8b0] | (simp only [i64_w, i32_w]; rw [c8b0]) | skip)
        by_cases c9 : a1 > 2147483648
        · rw [if_pos c9] at H
          have c9b0 : decide (2147483648 < a1) = true := decide_eq_true c9
          clear c9
          have H' := Aside0.mk H
          clear H
          go_wp2
          go_meet
          case rel => exact ⟨_, (true), (by first | rfl | (simp; done) | (simp [*]; done)), H', ⟨by first | omega | exact Nat.le_refl _⟩, ⟨by repeat (first | (with_reducible first | exact HB.out | apply below_alloc | apply pw_below_drewN | apply below_drew1) | exact HB.out)⟩⟩
        · rw [if_neg c9] at H
          have c9b0 : decide (2147483648 < a1) = false := decide_eq_false c9
          clear c9
          by_cases c10 : a0 > 2147483648
          · rw [if_pos c10] at H
            have c10b0 : decide (2147483648 < a0) = true := decide_eq_true c10
            clear c10
            have H' := Aside0.mk H
            clear H
            go_wp2
            go_meet
            case rel => exact ⟨_, (true), (by first | rfl | (simp; done) | (simp [*]; done)), H', ⟨by first | omega | exact Nat.le_refl _⟩, ⟨by repeat (first | (with_reducible first | exact HB.out | apply below_alloc | apply pw_below_drewN | apply below_drew1) | exact HB.out)⟩⟩
          · rw [if_neg c10] at H
            have c10b0 : decide (2147483648 < a0) = false := decide_eq_false c10
            clear c10
            have H' := Aside0.mk H
            clear H
            go_wp2
            go_meet
            case rel => exact ⟨_, (decide (a0 < (-2147483648))), (by first | rfl | (simp; done) | (simp [*]; done)), H', ⟨by first | omega | exact Nat.le_refl _⟩, ⟨by repeat (first | (with_reducible first | exact HB.out | apply below_alloc | apply pw_below_drewN | apply below_drew1) | exact HB.out)⟩⟩
    case rest =>
      clear HC6
      try clear c1
      try clear p2
      try clear c5
      try clear c6
      try clear c8
      try clear c8b0
      try clear c9
      try clear c9b0
      try clear c10
      try clear c10b0
      obtain ⟨kq, x26_5, rfl, HA, HJ5, HB⟩ := hcut
      cases kq with
      | zero => exact absurd HA.out (by simp [hortatorlaw1_TickRound.j0])
      | succ kj5 =>
        have H := HA.out
        clear HA
        simp only [hortatorlaw1_TickRound.j0] at H
        by_cases c11 : x26_5 = true
        · subst c11
          have H1 : (some true) = some r := by rw [if_pos rfl] at H; exact H
          clear H
          have H := H1
          clear H1
          obtain rfl := Option.some.inj H
          go_wp2
          go_ret
          exact ⟨by first | rfl | (simp [errW_none, errW_some] <;> rfl) | (simp [*, errW_none, errW_some] <;> rfl), by repeat (first | (with_reducible first | exact HB.out | apply below_alloc | apply pw_below_drewN | apply below_drew1) | exact HB.out)⟩
        · replace c11 := Bool.eq_false_iff.mpr c11
          subst c11
          have H1 : ((tick_Up.f a0 a1).bind fun t221 => ((tick_Down.f a0 a1).bind fun t222 => (if (wrap64 (t222 * a1)) ≤ a0 then (if (wrap64 (t221 * a1)) ≥ a0 then (if (wrap64 (t221 - t222)) ≤ 1 then (if a1 = 0 then (none) else (if ((t221 == t222) == ((Int.tmod a0 a1) == 0)) = true then ((tick_Up.f (wrap64 ((Int.tmod a2 1048576) * a1)) a1).bind fun t223 => (if t223 = (Int.tmod a2 1048576) then ((tick_Down.f (wrap64 ((Int.tmod a2 1048576) * a1)) a1).bind fun t224 => (if t224 = (Int.tmod a2 1048576) then ((tick_Up.f a0 a1).bind fun t225 => ((tick_Down.f (wrap64 (-a0)) a1).bind fun t226 => (some (t225 == (wrap64 (-t226)))))) else (some false))) else (some false))) else (some false))) else (some false)) else (some false)) else (some false)))) = some r := by rw [if_neg (show ¬ (false = true) by decide)] at H; exact H
          clear H
          have H := H1
          clear H1
          replace H := Option.bind_eq_some_iff.mp H
          obtain ⟨t221, A120, H⟩ := H
          replace H : ((tick_Down.f a0 a1).bind fun t222 => (if (wrap64 (t222 * a1)) ≤ a0 then (if (wrap64 (t221 * a1)) ≥ a0 then (if (wrap64 (t221 - t222)) ≤ 1 then (if a1 = 0 then (none) else (if ((t221 == t222) == ((Int.tmod a0 a1) == 0)) = true then ((tick_Up.f (wrap64 ((Int.tmod a2 1048576) * a1)) a1).bind fun t223 => (if t223 = (Int.tmod a2 1048576) then ((tick_Down.f (wrap64 ((Int.tmod a2 1048576) * a1)) a1).bind fun t224 => (if t224 = (Int.tmod a2 1048576) then ((tick_Up.f a0 a1).bind fun t225 => ((tick_Down.f (wrap64 (-a0)) a1).bind fun t226 => (some (t225 == (wrap64 (-t226)))))) else (some false))) else (some false))) else (some false))) else (some false)) else (some false)) else (some false))) = some r := H
          have A12 := Aside0.mk A120
          clear A120
          replace H := Option.bind_eq_some_iff.mp H
          obtain ⟨t222, A130, H⟩ := H
          replace H : (if (wrap64 (t222 * a1)) ≤ a0 then (if (wrap64 (t221 * a1)) ≥ a0 then (if (wrap64 (t221 - t222)) ≤ 1 then (if a1 = 0 then (none) else (if ((t221 == t222) == ((Int.tmod a0 a1) == 0)) = true then ((tick_Up.f (wrap64 ((Int.tmod a2 1048576) * a1)) a1).bind fun t223 => (if t223 = (Int.tmod a2 1048576) then ((tick_Down.f (wrap64 ((Int.tmod a2 1048576) * a1)) a1).bind fun t224 => (if t224 = (Int.tmod a2 1048576) then ((tick_Up.f a0 a1).bind fun t225 => ((tick_Down.f (wrap64 (-a0)) a1).bind fun t226 => (some (t225 == (wrap64 (-t226)))))) else (some false))) else (some false))) else (some false))) else (some false)) else (some false)) else (some false)) = some r := H
          have A13 := Aside0.mk A130
          clear A130
          by_cases c14 : (wrap64 (t222 * a1)) ≤ a0
          · rw [if_pos c14] at H
            have c14b0 : decide ((wrap64 (t222 * a1)) ≤ a0) = true := decide_eq_true c14
            clear c14
            by_cases c15 : (wrap64 (t221 * a1)) ≥ a0
            · rw [if_pos c15] at H
              have c15b0 : decide (a0 ≤ (wrap64 (t221 * a1))) = true := decide_eq_true c15
              clear c15
              by_cases c16 : (wrap64 (t221 - t222)) ≤ 1
              · rw [if_pos c16] at H
                have c16b0 : decide ((wrap64 (t221 - t222)) ≤ 1) = true := decide_eq_true c16
                clear c16
                by_cases c17 : a1 = 0
                · rw [if_pos c17] at H
                  exact absurd H (by simp)
                · rw [if_neg c17] at H
                  have c17b0 : (a1 == 0) = false := beq_eq_false_iff_ne.mpr c17
                  have c17b1 : (a1 != 0) = true := bne_iff_ne.mpr c17
                  by_cases c18 : ((t221 == t222) == ((Int.tmod a0 a1) == 0)) = true
                  · rw [if_pos c18] at H
                    have c18b0 : ((t221 == t222) == ((Int.tmod a0 a1) == 0)) = true := c18
                    (try (have c18b1 : decide ((t221 == t222) = ((Int.tmod a0 a1) == 0)) = true := by simpa using c18))
                    (try (have c18b2 : ((t221 == t222) == ((Int.tmod a0 a1) == 0)) = true := by simpa using c18))
                    clear c18
                    replace H := Option.bind_eq_some_iff.mp H
                    obtain ⟨t223, A190, H⟩ := H
                    replace H : (if t223 = (Int.tmod a2 1048576) then ((tick_Down.f (wrap64 ((Int.tmod a2 1048576) * a1)) a1).bind fun t224 => (if t224 = (Int.tmod a2 1048576) then ((tick_Up.f a0 a1).bind fun t225 => ((tick_Down.f (wrap64 (-a0)) a1).bind fun t226 => (some (t225 == (wrap64 (-t226)))))) else (some false))) else (some false)) = some r := H
                    have A19 := Aside0.mk A190
                    clear A190
                    by_cases c20 : t223 = (Int.tmod a2 1048576)
                    · rw [if_pos c20] at H
                      have c20b0 : (t223 == (Int.tmod a2 1048576)) = true := beq_iff_eq.mpr c20
                      have c20b1 : (t223 != (Int.tmod a2 1048576)) = false := bne_eq_false_iff_eq.mpr c20
                      clear c20
                      replace H := Option.bind_eq_some_iff.mp H
                      obtain ⟨t224, A210, H⟩ := H
                      replace H : (if t224 = (Int.tmod a2 1048576) then ((tick_Up.f a0 a1).bind fun t225 => ((tick_Down.f (wrap64 (-a0)) a1).bind fun t226 => (some (t225 == (wrap64 (-t226)))))) else (some false)) = some r := H
                      have A21 := Aside0.mk A210
                      clear A210
                      by_cases c22 : t224 = (Int.tmod a2 1048576)
                      · rw [if_pos c22] at H
                        have c22b0 : (t224 == (Int.tmod a2 1048576)) = true := beq_iff_eq.mpr c22
                        have c22b1 : (t224 != (Int.tmod a2 1048576)) = false := bne_eq_false_iff_eq.mpr c22
                        clear c22
                        replace H := Option.bind_eq_some_iff.mp H
                        obtain ⟨t225, A230, H⟩ := H
                        replace H : ((tick_Down.f (wrap64 (-a0)) a1).bind fun t226 => (some (t225 == (wrap64 (-t226))))) = some r := H
                        have A23 := Aside0.mk A230
                        clear A230
                        replace H := Option.bind_eq_some_iff.mp H
                        obtain ⟨t226, A240, H⟩ := H
                        replace H : (some (t225 == (wrap64 (-t226)))) = some r := H
                        have A24 := Aside0.mk A240
                        clear A240
                        obtain rfl := Option.some.inj H
                        go_wp2_with (first | ((with_reducible refine gate_callee (f := 16) rfl ?_); refine goesL_ (some 29) rfl rfl Try.func16 (by kernel_rfl) rfl #[.int .i64 a0, .int .i64 a1] rfl (by (try simp only [List.map_toArray, List.map_cons, List.map_nil]); first | done | rfl | (simp only [List.length_drop, List.length_take]; rfl)) ?_; (with_reducible refine (tick_Up.calls a0 a1 t221 _ A12.out).mono ?_); rintro e w' ⟨rfl, ⟨nd, rfl⟩⟩; refine ⟨_, rfl, ?_⟩) | ((with_reducible refine gate_callee (f := 18) rfl ?_); refine goesL_ (some 32) rfl rfl Try.func18 (by kernel_rfl) rfl #[.int .i64 a0, .int .i64 a1] rfl (by (try simp only [List.map_toArray, List.map_cons, List.map_nil]); first | done | rfl | (simp only [List.length_drop, List.length_take]; rfl)) ?_; (with_reducible refine (tick_Down.calls a0 a1 t222 _ A13.out).mono ?_); rintro e w' ⟨rfl, ⟨nd, rfl⟩⟩; refine ⟨_, rfl, ?_⟩) | (go_at_call 16; (with_reducible refine (tick_Up.calls (wrap64 ((Int.tmod a2 1048576) * a1)) a1 t223 _ A19.out).mono ?_); rintro e w' ⟨rfl, ⟨nd, rfl⟩⟩) | (go_at_call 18; (with_reducible refine (tick_Down.calls (wrap64 ((Int.tmod a2 1048576) * a1)) a1 t224 _ A21.out).mono ?_); rintro e w' ⟨rfl, ⟨nd, rfl⟩⟩) | (go_at_call 16; (with_reducible refine (tick_Up.calls a0 a1 t225 _ A23.out).mono ?_); rintro e w' ⟨rfl, ⟨nd, rfl⟩⟩) | (go_at_call 18; (with_reducible refine (tick_Down.calls (wrap64 (-a0)) a1 t226 _ A24.out).mono ?_); rintro e w' ⟨rfl, ⟨nd, rfl⟩⟩))
                        go_ret
                        exact ⟨by first | rfl | (simp [errW_none, errW_some] <;> rfl) | (simp [*, errW_none, errW_some] <;> rfl), by repeat (first | (with_reducible first | exact HB.out | apply below_alloc | apply pw_below_drewN | apply below_drew1) | exact HB.out)⟩
                      · rw [if_neg c22] at H
                        have c22b0 : (t224 == (Int.tmod a2 1048576)) = false := beq_eq_false_iff_ne.mpr c22
                        have c22b1 : (t224 != (Int.tmod a2 1048576)) = true := bne_iff_ne.mpr c22
                        obtain rfl := Option.some.inj H
                        go_wp2_with (first | ((with_reducible refine gate_callee (f := 16) rfl ?_); refine goesL_ (some 29) rfl rfl Try.func16 (by kernel_rfl) rfl #[.int .i64 a0, .int .i64 a1] rfl (by (try simp only [List.map_toArray, List.map_cons, List.map_nil]); first | done | rfl | (simp only [List.length_drop, List.length_take]; rfl)) ?_; (with_reducible refine (tick_Up.calls a0 a1 t221 _ A12.out).mono ?_); rintro e w' ⟨rfl, ⟨nd, rfl⟩⟩; refine ⟨_, rfl, ?_⟩) | ((with_reducible refine gate_callee (f := 18) rfl ?_); refine goesL_ (some 32) rfl rfl Try.func18 (by kernel_rfl) rfl #[.int .i64 a0, .int .i64 a1] rfl (by (try simp only [List.map_toArray, List.map_cons, List.map_nil]); first | done | rfl | (simp only [List.length_drop, List.length_take]; rfl)) ?_; (with_reducible refine (tick_Down.calls a0 a1 t222 _ A13.out).mono ?_); rintro e w' ⟨rfl, ⟨nd, rfl⟩⟩; refine ⟨_, rfl, ?_⟩) | (go_at_call 16; (with_reducible refine (tick_Up.calls (wrap64 ((Int.tmod a2 1048576) * a1)) a1 t223 _ A19.out).mono ?_); rintro e w' ⟨rfl, ⟨nd, rfl⟩⟩) | (go_at_call 18; (with_reducible refine (tick_Down.calls (wrap64 ((Int.tmod a2 1048576) * a1)) a1 t224 _ A21.out).mono ?_); rintro e w' ⟨rfl, ⟨nd, rfl⟩⟩))
                        go_ret
                        exact ⟨by first | rfl | (simp [errW_none, errW_some] <;> rfl) | (simp [*, errW_none, errW_some] <;> rfl), by repeat (first | (with_reducible first | exact HB.out | apply below_alloc | apply pw_below_drewN | apply below_drew1) | exact HB.out)⟩
                    · rw [if_neg c20] at H
                      have c20b0 : (t223 == (Int.tmod a2 1048576)) = false := beq_eq_false_iff_ne.mpr c20
                      have c20b1 : (t223 != (Int.tmod a2 1048576)) = true := bne_iff_ne.mpr c20
                      obtain rfl := Option.some.inj H
                      go_wp2_with (first | ((with_reducible refine gate_callee (f := 16) rfl ?_); refine goesL_ (some 29) rfl rfl Try.func16 (by kernel_rfl) rfl #[.int .i64 a0, .int .i64 a1] rfl (by (try simp only [List.map_toArray, List.map_cons, List.map_nil]); first | done | rfl | (simp only [List.length_drop, List.length_take]; rfl)) ?_; (with_reducible refine (tick_Up.calls a0 a1 t221 _ A12.out).mono ?_); rintro e w' ⟨rfl, ⟨nd, rfl⟩⟩; refine ⟨_, rfl, ?_⟩) | ((with_reducible refine gate_callee (f := 18) rfl ?_); refine goesL_ (some 32) rfl rfl Try.func18 (by kernel_rfl) rfl #[.int .i64 a0, .int .i64 a1] rfl (by (try simp only [List.map_toArray, List.map_cons, List.map_nil]); first | done | rfl | (simp only [List.length_drop, List.length_take]; rfl)) ?_; (with_reducible refine (tick_Down.calls a0 a1 t222 _ A13.out).mono ?_); rintro e w' ⟨rfl, ⟨nd, rfl⟩⟩; refine ⟨_, rfl, ?_⟩) | (go_at_call 16; (with_reducible refine (tick_Up.calls (wrap64 ((Int.tmod a2 1048576) * a1)) a1 t223 _ A19.out).mono ?_); rintro e w' ⟨rfl, ⟨nd, rfl⟩⟩))
                      go_ret
                      exact ⟨by first | rfl | (simp [errW_none, errW_some] <;> rfl) | (simp [*, errW_none, errW_some] <;> rfl), by repeat (first | (with_reducible first | exact HB.out | apply below_alloc | apply pw_below_drewN | apply below_drew1) | exact HB.out)⟩
                  · rw [if_neg c18] at H
                    have c18b0 : ((t221 == t222) == ((Int.tmod a0 a1) == 0)) = false := by simpa using c18
                    (try (have c18b1 : decide ((t221 == t222) = ((Int.tmod a0 a1) == 0)) = false := by simpa using c18))
                    (try (have c18b2 : ((t221 == t222) == ((Int.tmod a0 a1) == 0)) = false := by simpa using c18))
                    (try (have c18b3 : ¬ ((t221 == t222) = ((Int.tmod a0 a1) == 0)) := by simpa using c18))
                    clear c18
                    obtain rfl := Option.some.inj H
                    go_wp2_with (first | ((with_reducible refine gate_callee (f := 16) rfl ?_); refine goesL_ (some 29) rfl rfl Try.func16 (by kernel_rfl) rfl #[.int .i64 a0, .int .i64 a1] rfl (by (try simp only [List.map_toArray, List.map_cons, List.map_nil]); first | done | rfl | (simp only [List.length_drop, List.length_take]; rfl)) ?_; (with_reducible refine (tick_Up.calls a0 a1 t221 _ A12.out).mono ?_); rintro e w' ⟨rfl, ⟨nd, rfl⟩⟩; refine ⟨_, rfl, ?_⟩) | ((with_reducible refine gate_callee (f := 18) rfl ?_); refine goesL_ (some 32) rfl rfl Try.func18 (by kernel_rfl) rfl #[.int .i64 a0, .int .i64 a1] rfl (by (try simp only [List.map_toArray, List.map_cons, List.map_nil]); first | done | rfl | (simp only [List.length_drop, List.length_take]; rfl)) ?_; (with_reducible refine (tick_Down.calls a0 a1 t222 _ A13.out).mono ?_); rintro e w' ⟨rfl, ⟨nd, rfl⟩⟩; refine ⟨_, rfl, ?_⟩))
                    go_ret
                    exact ⟨by first | rfl | (simp [errW_none, errW_some] <;> rfl) | (simp [*, errW_none, errW_some] <;> rfl), by repeat (first | (with_reducible first | exact HB.out | apply below_alloc | apply pw_below_drewN | apply below_drew1) | exact HB.out)⟩
              · rw [if_neg c16] at H
                have c16b0 : decide ((wrap64 (t221 - t222)) ≤ 1) = false := decide_eq_false c16
                clear c16
                obtain rfl := Option.some.inj H
                go_wp2_with (first | ((with_reducible refine gate_callee (f := 16) rfl ?_); refine goesL_ (some 29) rfl rfl Try.func16 (by kernel_rfl) rfl #[.int .i64 a0, .int .i64 a1] rfl (by (try simp only [List.map_toArray, List.map_cons, List.map_nil]); first | done | rfl | (simp only [List.length_drop, List.length_take]; rfl)) ?_; (with_reducible refine (tick_Up.calls a0 a1 t221 _ A12.out).mono ?_); rintro e w' ⟨rfl, ⟨nd, rfl⟩⟩; refine ⟨_, rfl, ?_⟩) | ((with_reducible refine gate_callee (f := 18) rfl ?_); refine goesL_ (some 32) rfl rfl Try.func18 (by kernel_rfl) rfl #[.int .i64 a0, .int .i64 a1] rfl (by (try simp only [List.map_toArray, List.map_cons, List.map_nil]); first | done | rfl | (simp only [List.length_drop, List.length_take]; rfl)) ?_; (with_reducible refine (tick_Down.calls a0 a1 t222 _ A13.out).mono ?_); rintro e w' ⟨rfl, ⟨nd, rfl⟩⟩; refine ⟨_, rfl, ?_⟩))
                go_ret
                exact ⟨by first | rfl | (simp [errW_none, errW_some] <;> rfl) | (simp [*, errW_none, errW_some] <;> rfl), by repeat (first | (with_reducible first | exact HB.out | apply below_alloc | apply pw_below_drewN | apply below_drew1) | exact HB.out)⟩
            · rw [if_neg c15] at H
              have c15b0 : decide (a0 ≤ (wrap64 (t221 * a1))) = false := decide_eq_false c15
              clear c15
              obtain rfl := Option.some.inj H
              go_wp2_with (first | ((with_reducible refine gate_callee (f := 16) rfl ?_); refine goesL_ (some 29) rfl rfl Try.func16 (by kernel_rfl) rfl #[.int .i64 a0, .int .i64 a1] rfl (by (try simp only [List.map_toArray, List.map_cons, List.map_nil]); first | done | rfl | (simp only [List.length_drop, List.length_take]; rfl)) ?_; (with_reducible refine (tick_Up.calls a0 a1 t221 _ A12.out).mono ?_); rintro e w' ⟨rfl, ⟨nd, rfl⟩⟩; refine ⟨_, rfl, ?_⟩) | ((with_reducible refine gate_callee (f := 18) rfl ?_); refine goesL_ (some 32) rfl rfl Try.func18 (by kernel_rfl) rfl #[.int .i64 a0, .int .i64 a1] rfl (by (try simp only [List.map_toArray, List.map_cons, List.map_nil]); first | done | rfl | (simp only [List.length_drop, List.length_take]; rfl)) ?_; (with_reducible refine (tick_Down.calls a0 a1 t222 _ A13.out).mono ?_); rintro e w' ⟨rfl, ⟨nd, rfl⟩⟩; refine ⟨_, rfl, ?_⟩))
              go_ret
              exact ⟨by first | rfl | (simp [errW_none, errW_some] <;> rfl) | (simp [*, errW_none, errW_some] <;> rfl), by repeat (first | (with_reducible first | exact HB.out | apply below_alloc | apply pw_below_drewN | apply below_drew1) | exact HB.out)⟩
          · rw [if_neg c14] at H
            have c14b0 : decide ((wrap64 (t222 * a1)) ≤ a0) = false := decide_eq_false c14
            clear c14
            obtain rfl := Option.some.inj H
            go_wp2_with (first | ((with_reducible refine gate_callee (f := 16) rfl ?_); refine goesL_ (some 29) rfl rfl Try.func16 (by kernel_rfl) rfl #[.int .i64 a0, .int .i64 a1] rfl (by (try simp only [List.map_toArray, List.map_cons, List.map_nil]); first | done | rfl | (simp only [List.length_drop, List.length_take]; rfl)) ?_; (with_reducible refine (tick_Up.calls a0 a1 t221 _ A12.out).mono ?_); rintro e w' ⟨rfl, ⟨nd, rfl⟩⟩; refine ⟨_, rfl, ?_⟩) | ((with_reducible refine gate_callee (f := 18) rfl ?_); refine goesL_ (some 32) rfl rfl Try.func18 (by kernel_rfl) rfl #[.int .i64 a0, .int .i64 a1] rfl (by (try simp only [List.map_toArray, List.map_cons, List.map_nil]); first | done | rfl | (simp only [List.length_drop, List.length_take]; rfl)) ?_; (with_reducible refine (tick_Down.calls a0 a1 t222 _ A13.out).mono ?_); rintro e w' ⟨rfl, ⟨nd, rfl⟩⟩; refine ⟨_, rfl, ?_⟩))
            go_ret
            exact ⟨by first | rfl | (simp [errW_none, errW_some] <;> rfl) | (simp [*, errW_none, errW_some] <;> rfl), by repeat (first | (with_reducible first | exact HB.out | apply below_alloc | apply pw_below_drewN | apply below_drew1) | exact HB.out)⟩
  · replace c5 := Bool.eq_false_iff.mpr c5
    subst c5
    have H1 : (some false) = some r := by rw [if_neg (show ¬ (false = true) by decide)] at H; exact H
    clear H
    have H := H1
    clear H1
    obtain rfl := Option.some.inj H
    go_enter Try.func6, Try.ntmps6
    go_wp2_with (first | ((with_reducible refine gate_callee (f := 11) rfl ?_); refine goesL_ (some 10) rfl rfl Try.func11 (by kernel_rfl) rfl #[] rfl (by (try simp only [List.map_toArray, List.map_cons, List.map_nil]); first | done | rfl | (simp only [List.length_drop, List.length_take]; rfl)) ?_; (with_reducible refine (hortatorlaw1_begun.calls k  false _ A4.out).mono ?_); rintro e w25 ⟨rfl, hb⟩; refine ⟨_, rfl, ?_⟩; have n0_ := Aside0.mk (below_step (by repeat (first | (with_reducible first | exact HB.out | apply below_alloc | apply pw_below_drewN | apply below_drew1) | exact HB.out)) hb); clear HB; have HB := n0_; clear n0_; (try clear hb); (try clear hb2); (try clear hk); (try clear hi)))
    go_ret
    exact ⟨by first | rfl | (simp [errW_none, errW_some] <;> rfl) | (simp [*, errW_none, errW_some] <;> rfl), by repeat (first | (with_reducible first | exact HB.out | apply below_alloc | apply pw_below_drewN | apply below_drew1) | exact HB.out)⟩

/-- THE ONE PURE STATEMENT of hortatorlaw1_TickRound: yours. -/
def hortatorlaw1_TickRound.Pure : Prop := ∀ (a0 : Int) (a1 : Int) (a2 : Int), (Lit.int .i64 a0).wf = true → (Lit.int .i64 a1).wf = true → (Lit.int .i64 a2).wf = true → ∃ k, hortatorlaw1_TickRound.f k a0 a1 a2 = some true
theorem hortatorlaw1_TickRound.walk (P : hortatorlaw1_TickRound.Pure) (a0 : Int) (a1 : Int) (a2 : Int) (w : World) (w0 : (Lit.int .i64 a0).wf = true) (w1 : (Lit.int .i64 a1).wf = true) (w2 : (Lit.int .i64 a2).wf = true) :
    Calls Try.prog 6 #[.int .i64 a0, .int .i64 a1, .int .i64 a2] w fun e w' => e = .returned (.bool true) ∧ Below w.heap.size w w' := by
  obtain ⟨k, h⟩ := P a0 a1 a2 w0 w1 w2
  refine (hortatorlaw1_TickRound.calls k a0 a1 a2 true w h).mono ?_
  rintro e w' ⟨rfl, hd⟩
  exact ⟨rfl, hd⟩

end Go.Proofs.Ytjkicgbmdloomaa.PTick
