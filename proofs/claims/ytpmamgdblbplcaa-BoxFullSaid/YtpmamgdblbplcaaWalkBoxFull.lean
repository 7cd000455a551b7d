/- BoxFull: the walk. -/
import Derived.Test.YtpmamgdblbplcaaWalkRingTurn
namespace Go.Proofs.Ytpmamgdblbplcaa.On
open Go.RowKit Go.Proofs.Ytpmamgdblbplcaa.HeapModel Go.Proofs.Ytpmamgdblbplcaa.Bg
set_option linter.unusedVariables false
set_option linter.unusedSimpArgs false
theorem b1_run {w0 w : World} {p cap j : Nat} (h : B1 w0 w p cap (run 0 j)) (hj : j < cap) :
    Calls Try.prog 37 #[.pointer (some ⟨p, 0, none⟩), .int .i64 (j : Int)] w fun e w' => e = .returned (.bool true) ∧ B1 w0 w' p cap (run 0 (j + 1)) := by
  have := b1_put h (j : Int) (by rw [run_len]; exact hj)
  rw [show run 0 j ++ [(j : Int)] = run 0 (j + 1) by rw [← run_snoc]; simp] at this
  exact this
set_option maxHeartbeats 4000000 in
set_option maxRecDepth 100000 in
theorem boxFull_walk (room n : Int) (w : World) (wa : (Lit.int .i64 room).wf = true) (wb : (Lit.int .i64 n).wf = true) :
    Calls Try.prog 11 #[.int .i64 room, .int .i64 n] w fun e w' => e = .returned (.bool true) ∧ Below w.heap.size w w' := by
  have ba := bounds_i64 wa
  have bb := bounds_i64 wb
  clear wa wb
  have three : (room ≤ 0 ∨ (0 < room ∧ room ≤ 100)) ∨ 100 < room := by omega
  obtain ⟨cap, hcap⟩ : ∃ cap : Nat, cap = (min (max room 0) 100).toNat := ⟨_, rfl⟩
  have CAP := Lib.hid hcap
  clear hcap bb
  rcases three with (t1 | ⟨t1, t2⟩) | t1
  · have e0 : cap = 0 := by have := CAP.out; omega
    have E0 := Lib.hid e0
    clear e0
    by_cases c1 : n < 0
    · go_enter Try.func11, Try.ntmps11
      go_wp2_with (go_at_call 22; refine (begun2 w).mono ?_; rintro e w1 ⟨rfl, hb⟩; have HB := Lib.hid hb; clear hb)
      go_ret
      exact ⟨rfl, HB.out⟩
    by_cases c2 : n > 110
    · go_enter Try.func11, Try.ntmps11
      go_wp2_with (go_at_call 22; refine (begun2 w).mono ?_; rintro e w1 ⟨rfl, hb⟩; have HB := Lib.hid hb; clear hb)
      go_ret
      exact ⟨rfl, HB.out⟩
    obtain ⟨N, rfl⟩ : ∃ N : Nat, n = (N : Int) := ⟨n.toNat, by omega⟩
    have hn : N ≤ 110 := by omega
    go_enter Try.func11, Try.ntmps11
    go_wp2_with (first
      | (go_at_call 22; refine (begun2 w).mono ?_; rintro e w1 ⟨rfl, hb⟩; have HB := Lib.hid hb; clear hb)
      | (go_at_call 36; refine (b1_new HB.out _ ba).mono ?_; rintro e w2 ⟨p, rfl, h⟩; rw [← CAP.out] at h; have R0 := Lib.hid h; clear h HB))
    clear t1
    go_loopw [8] (fun i wr => ∃ j : Nat, i = .int .i64 (j : Int) ∧ Hid (B1 w wr p cap (run 0 (min j cap))) ∧ j ≤ N) (fun i _ => 1006 - (intOf i).toNat)
    case atStart => exact ⟨0, rfl, by rw [show min 0 cap = 0 by omega]; exact R0, by omega⟩
    case round =>
      obtain ⟨j, rfl, HR, hj⟩ := hrel
      clear R0
      by_cases hlt : (j : Int) < N
      · by_cases hin : j < cap
        · have hin' : (j : Int) < 0 := by have := E0.out; omega
          have HR2 : Hid (B1 w wr p cap (run 0 j)) := by rw [show min j cap = j by omega] at HR; exact HR
          clear HR
          go_wp2_with (go_at_call 37; refine (b1_run HR2.out hin).mono ?_; rintro e w3 ⟨rfl, h⟩; have H := Lib.hid h; clear h)
          exact ⟨⟨j + 1, int_eq (by omega), by rw [show min (j + 1) cap = j + 1 by omega]; exact H, by omega⟩, by simp [intOf]; omega⟩
        · have hin' : ¬ (j : Int) < 0 := by have := E0.out; omega
          have HR2 : Hid (B1 w wr p cap (run 0 cap)) := by rw [show min j cap = cap by omega] at HR; exact HR
          clear HR
          go_wp2_with (go_at_call 37; refine (b1_full HR2.out _ (by rw [run_len]; omega)).mono ?_; rintro e w3 ⟨rfl, rfl⟩)
          exact ⟨⟨j + 1, int_eq (by omega), by rw [show min (j + 1) cap = cap by omega]; exact HR2, by omega⟩, by simp [intOf]; omega⟩
      · obtain rfl : j = N := by omega
        by_cases hm : (j : Int) ≤ 0
        all_goals
          have hm0 := hm
          clear hlt hj
          go_wp2
          go_loopw [9] (fun i wr => ∃ t : Nat, i = .int .i64 (t : Int) ∧ Hid (B1 w wr p cap (run (t : Int) (min j cap - t))) ∧ t ≤ min j cap) (fun i _ => 1006 - (intOf i).toNat)
          case atStart => exact ⟨0, rfl, HR, by omega⟩
          case round =>
            clear HR
            obtain ⟨t, rfl, HR, ht⟩ := hrel
            by_cases hlt : t < min j cap
            · have HR2 := HR.out
              rw [show min j cap - t = (min j cap - (t + 1)) + 1 by omega, run_cons] at HR2
              have HR3 := Lib.hid HR2
              clear HR2
              have hl1 : (t : Int) < j := by omega
              have hl2 : (t : Int) < 0 := by have := E0.out; omega
              go_wp2_with (go_at_call 38; refine (b1_take HR3.out).mono ?_; rintro e w3 ⟨rfl, h⟩; have H := Lib.hid h; clear h)
              exact ⟨⟨t + 1, int_eq (by omega), H, by omega⟩, by simp [intOf]; omega⟩
            · have HR2 := HR.out
              rw [show min j cap - t = 0 by omega] at HR2
              have HR3 : Hid (B1 w wr p cap []) := Lib.hid HR2
              clear HR2 HR
              have hl : (¬ (t : Int) < j) ∨ ¬ (t : Int) < 0 := by have := E0.out; omega
              have hl1 : (t : Int) = j ∨ (t : Int) = 0 := by have := E0.out; omega
              have hl2 : ((j : Int) ≤ 0 → ¬ (t : Int) < j) ∧ (¬ (j : Int) ≤ 0 → ¬ (t : Int) < 0) := by have := E0.out; omega
              first
                | (have hl3 := hl2.1 hm0; clear hl hl1 hl2; go_wp2_with (first
                    | (go_at_call 38; refine (b1_take_no HR3.out).mono ?_; rintro e wx ⟨rfl, rfl⟩)
                    | (go_at_call 36; refine (b1_more HR3.out 0 (by omega)).mono ?_; rintro e w3 ⟨q, rfl, h⟩; have H := Lib.hid h; clear h)
                    | (go_at_call 39; refine (b2_none H.out).mono ?_; rintro e wx ⟨rfl, rfl⟩)))
                | (have hm1 : ¬ (j : Int) ≤ 0 := (by omega); have hl3 := hl2.2 hm1; clear hl hl1 hl2; go_wp2_with (first
                    | (go_at_call 38; refine (b1_take_no HR3.out).mono ?_; rintro e wx ⟨rfl, rfl⟩)
                    | (go_at_call 36; refine (b1_more HR3.out 0 (by omega)).mono ?_; rintro e w3 ⟨q, rfl, h⟩; have H := Lib.hid h; clear h)
                    | (go_at_call 39; refine (b2_none H.out).mono ?_; rintro e wx ⟨rfl, rfl⟩)))
              go_ret
              exact ⟨rfl, H.out.bel⟩
  · obtain rfl : room = (cap : Int) := by have := CAP.out; omega
    have e0 : cap ≤ 100 := by omega
    have E0 := Lib.hid e0
    clear e0
    by_cases c1 : n < 0
    · go_enter Try.func11, Try.ntmps11
      go_wp2_with (go_at_call 22; refine (begun2 w).mono ?_; rintro e w1 ⟨rfl, hb⟩; have HB := Lib.hid hb; clear hb)
      go_ret
      exact ⟨rfl, HB.out⟩
    by_cases c2 : n > 110
    · go_enter Try.func11, Try.ntmps11
      go_wp2_with (go_at_call 22; refine (begun2 w).mono ?_; rintro e w1 ⟨rfl, hb⟩; have HB := Lib.hid hb; clear hb)
      go_ret
      exact ⟨rfl, HB.out⟩
    obtain ⟨N, rfl⟩ : ∃ N : Nat, n = (N : Int) := ⟨n.toNat, by omega⟩
    have hn : N ≤ 110 := by omega
    go_enter Try.func11, Try.ntmps11
    go_wp2_with (first
      | (go_at_call 22; refine (begun2 w).mono ?_; rintro e w1 ⟨rfl, hb⟩; have HB := Lib.hid hb; clear hb)
      | (go_at_call 36; refine (b1_new HB.out _ ba).mono ?_; rintro e w2 ⟨p, rfl, h⟩; rw [← CAP.out] at h; have R0 := Lib.hid h; clear h HB))
    clear t1
    go_loopw [8] (fun i wr => ∃ j : Nat, i = .int .i64 (j : Int) ∧ Hid (B1 w wr p cap (run 0 (min j cap))) ∧ j ≤ N) (fun i _ => 1006 - (intOf i).toNat)
    case atStart => exact ⟨0, rfl, by rw [show min 0 cap = 0 by omega]; exact R0, by omega⟩
    case round =>
      obtain ⟨j, rfl, HR, hj⟩ := hrel
      clear R0
      by_cases hlt : (j : Int) < N
      · by_cases hin : j < cap
        · have hin' : (j : Int) < (cap : Int) := by have := E0.out; omega
          have HR2 : Hid (B1 w wr p cap (run 0 j)) := by rw [show min j cap = j by omega] at HR; exact HR
          clear HR
          go_wp2_with (go_at_call 37; refine (b1_run HR2.out hin).mono ?_; rintro e w3 ⟨rfl, h⟩; have H := Lib.hid h; clear h)
          exact ⟨⟨j + 1, int_eq (by omega), by rw [show min (j + 1) cap = j + 1 by omega]; exact H, by omega⟩, by simp [intOf]; omega⟩
        · have hin' : ¬ (j : Int) < (cap : Int) := by have := E0.out; omega
          have HR2 : Hid (B1 w wr p cap (run 0 cap)) := by rw [show min j cap = cap by omega] at HR; exact HR
          clear HR
          go_wp2_with (go_at_call 37; refine (b1_full HR2.out _ (by rw [run_len]; omega)).mono ?_; rintro e w3 ⟨rfl, rfl⟩)
          exact ⟨⟨j + 1, int_eq (by omega), by rw [show min (j + 1) cap = cap by omega]; exact HR2, by omega⟩, by simp [intOf]; omega⟩
      · obtain rfl : j = N := by omega
        by_cases hm : (j : Int) ≤ (cap : Int)
        all_goals
          have hm0 := hm
          clear hlt hj
          go_wp2
          go_loopw [9] (fun i wr => ∃ t : Nat, i = .int .i64 (t : Int) ∧ Hid (B1 w wr p cap (run (t : Int) (min j cap - t))) ∧ t ≤ min j cap) (fun i _ => 1006 - (intOf i).toNat)
          case atStart => exact ⟨0, rfl, HR, by omega⟩
          case round =>
            clear HR
            obtain ⟨t, rfl, HR, ht⟩ := hrel
            by_cases hlt : t < min j cap
            · have HR2 := HR.out
              rw [show min j cap - t = (min j cap - (t + 1)) + 1 by omega, run_cons] at HR2
              have HR3 := Lib.hid HR2
              clear HR2
              have hl1 : (t : Int) < j := by omega
              have hl2 : (t : Int) < (cap : Int) := by have := E0.out; omega
              go_wp2_with (go_at_call 38; refine (b1_take HR3.out).mono ?_; rintro e w3 ⟨rfl, h⟩; have H := Lib.hid h; clear h)
              exact ⟨⟨t + 1, int_eq (by omega), H, by omega⟩, by simp [intOf]; omega⟩
            · have HR2 := HR.out
              rw [show min j cap - t = 0 by omega] at HR2
              have HR3 : Hid (B1 w wr p cap []) := Lib.hid HR2
              clear HR2 HR
              have hl : (¬ (t : Int) < j) ∨ ¬ (t : Int) < (cap : Int) := by have := E0.out; omega
              have hl1 : (t : Int) = j ∨ (t : Int) = (cap : Int) := by have := E0.out; omega
              have hl2 : ((j : Int) ≤ (cap : Int) → ¬ (t : Int) < j) ∧ (¬ (j : Int) ≤ (cap : Int) → ¬ (t : Int) < (cap : Int)) := by have := E0.out; omega
              first
                | (have hl3 := hl2.1 hm0; clear hl hl1 hl2; go_wp2_with (first
                    | (go_at_call 38; refine (b1_take_no HR3.out).mono ?_; rintro e wx ⟨rfl, rfl⟩)
                    | (go_at_call 36; refine (b1_more HR3.out 0 (by omega)).mono ?_; rintro e w3 ⟨q, rfl, h⟩; have H := Lib.hid h; clear h)
                    | (go_at_call 39; refine (b2_none H.out).mono ?_; rintro e wx ⟨rfl, rfl⟩)))
                | (have hm1 : ¬ (j : Int) ≤ (cap : Int) := (by omega); have hl3 := hl2.2 hm1; clear hl hl1 hl2; go_wp2_with (first
                    | (go_at_call 38; refine (b1_take_no HR3.out).mono ?_; rintro e wx ⟨rfl, rfl⟩)
                    | (go_at_call 36; refine (b1_more HR3.out 0 (by omega)).mono ?_; rintro e w3 ⟨q, rfl, h⟩; have H := Lib.hid h; clear h)
                    | (go_at_call 39; refine (b2_none H.out).mono ?_; rintro e wx ⟨rfl, rfl⟩)))
              go_ret
              exact ⟨rfl, H.out.bel⟩
  · have e0 : cap = 100 := by have := CAP.out; omega
    have E0 := Lib.hid e0
    clear e0
    by_cases c1 : n < 0
    · go_enter Try.func11, Try.ntmps11
      go_wp2_with (go_at_call 22; refine (begun2 w).mono ?_; rintro e w1 ⟨rfl, hb⟩; have HB := Lib.hid hb; clear hb)
      go_ret
      exact ⟨rfl, HB.out⟩
    by_cases c2 : n > 110
    · go_enter Try.func11, Try.ntmps11
      go_wp2_with (go_at_call 22; refine (begun2 w).mono ?_; rintro e w1 ⟨rfl, hb⟩; have HB := Lib.hid hb; clear hb)
      go_ret
      exact ⟨rfl, HB.out⟩
    obtain ⟨N, rfl⟩ : ∃ N : Nat, n = (N : Int) := ⟨n.toNat, by omega⟩
    have hn : N ≤ 110 := by omega
    go_enter Try.func11, Try.ntmps11
    go_wp2_with (first
      | (go_at_call 22; refine (begun2 w).mono ?_; rintro e w1 ⟨rfl, hb⟩; have HB := Lib.hid hb; clear hb)
      | (go_at_call 36; refine (b1_new HB.out _ ba).mono ?_; rintro e w2 ⟨p, rfl, h⟩; rw [← CAP.out] at h; have R0 := Lib.hid h; clear h HB))
    clear t1
    go_loopw [8] (fun i wr => ∃ j : Nat, i = .int .i64 (j : Int) ∧ Hid (B1 w wr p cap (run 0 (min j cap))) ∧ j ≤ N) (fun i _ => 1006 - (intOf i).toNat)
    case atStart => exact ⟨0, rfl, by rw [show min 0 cap = 0 by omega]; exact R0, by omega⟩
    case round =>
      obtain ⟨j, rfl, HR, hj⟩ := hrel
      clear R0
      by_cases hlt : (j : Int) < N
      · by_cases hin : j < cap
        · have hin' : (j : Int) < 100 := by have := E0.out; omega
          have HR2 : Hid (B1 w wr p cap (run 0 j)) := by rw [show min j cap = j by omega] at HR; exact HR
          clear HR
          go_wp2_with (go_at_call 37; refine (b1_run HR2.out hin).mono ?_; rintro e w3 ⟨rfl, h⟩; have H := Lib.hid h; clear h)
          exact ⟨⟨j + 1, int_eq (by omega), by rw [show min (j + 1) cap = j + 1 by omega]; exact H, by omega⟩, by simp [intOf]; omega⟩
        · have hin' : ¬ (j : Int) < 100 := by have := E0.out; omega
          have HR2 : Hid (B1 w wr p cap (run 0 cap)) := by rw [show min j cap = cap by omega] at HR; exact HR
          clear HR
          go_wp2_with (go_at_call 37; refine (b1_full HR2.out _ (by rw [run_len]; omega)).mono ?_; rintro e w3 ⟨rfl, rfl⟩)
          exact ⟨⟨j + 1, int_eq (by omega), by rw [show min (j + 1) cap = cap by omega]; exact HR2, by omega⟩, by simp [intOf]; omega⟩
      · obtain rfl : j = N := by omega
        by_cases hm : (j : Int) ≤ 100
        all_goals
          have hm0 := hm
          clear hlt hj
          go_wp2
          go_loopw [9] (fun i wr => ∃ t : Nat, i = .int .i64 (t : Int) ∧ Hid (B1 w wr p cap (run (t : Int) (min j cap - t))) ∧ t ≤ min j cap) (fun i _ => 1006 - (intOf i).toNat)
          case atStart => exact ⟨0, rfl, HR, by omega⟩
          case round =>
            clear HR
            obtain ⟨t, rfl, HR, ht⟩ := hrel
            by_cases hlt : t < min j cap
            · have HR2 := HR.out
              rw [show min j cap - t = (min j cap - (t + 1)) + 1 by omega, run_cons] at HR2
              have HR3 := Lib.hid HR2
              clear HR2
              have hl1 : (t : Int) < j := by omega
              have hl2 : (t : Int) < 100 := by have := E0.out; omega
              go_wp2_with (go_at_call 38; refine (b1_take HR3.out).mono ?_; rintro e w3 ⟨rfl, h⟩; have H := Lib.hid h; clear h)
              exact ⟨⟨t + 1, int_eq (by omega), H, by omega⟩, by simp [intOf]; omega⟩
            · have HR2 := HR.out
              rw [show min j cap - t = 0 by omega] at HR2
              have HR3 : Hid (B1 w wr p cap []) := Lib.hid HR2
              clear HR2 HR
              have hl : (¬ (t : Int) < j) ∨ ¬ (t : Int) < 100 := by have := E0.out; omega
              have hl1 : (t : Int) = j ∨ (t : Int) = 100 := by have := E0.out; omega
              have hl2 : ((j : Int) ≤ 100 → ¬ (t : Int) < j) ∧ (¬ (j : Int) ≤ 100 → ¬ (t : Int) < 100) := by have := E0.out; omega
              first
                | (have hl3 := hl2.1 hm0; clear hl hl1 hl2; go_wp2_with (first
                    | (go_at_call 38; refine (b1_take_no HR3.out).mono ?_; rintro e wx ⟨rfl, rfl⟩)
                    | (go_at_call 36; refine (b1_more HR3.out 0 (by omega)).mono ?_; rintro e w3 ⟨q, rfl, h⟩; have H := Lib.hid h; clear h)
                    | (go_at_call 39; refine (b2_none H.out).mono ?_; rintro e wx ⟨rfl, rfl⟩)))
                | (have hm1 : ¬ (j : Int) ≤ 100 := (by omega); have hl3 := hl2.2 hm1; clear hl hl1 hl2; go_wp2_with (first
                    | (go_at_call 38; refine (b1_take_no HR3.out).mono ?_; rintro e wx ⟨rfl, rfl⟩)
                    | (go_at_call 36; refine (b1_more HR3.out 0 (by omega)).mono ?_; rintro e w3 ⟨q, rfl, h⟩; have H := Lib.hid h; clear h)
                    | (go_at_call 39; refine (b2_none H.out).mono ?_; rintro e wx ⟨rfl, rfl⟩)))
              go_ret
              exact ⟨rfl, H.out.bel⟩
end Go.Proofs.Ytpmamgdblbplcaa.On
