/- RingTurn: the walk. -/
import Derived.Test.YtpmamgdblbplcaaOne
import Derived.OpenShut
import Derived.WalkArith
namespace Go.Proofs.Ytpmamgdblbplcaa.On
open Go.RowKit Go.Proofs.Ytpmamgdblbplcaa.HeapModel Go.Proofs.Ytpmamgdblbplcaa.Bg
set_option linter.unusedVariables false
set_option linter.unusedSimpArgs false

/-- k numbers from a on -/
def run (a : Int) (k : Nat) : List Int := (List.range k).map (fun (j : Nat) => a + (j : Int))
theorem run_len (a : Int) (k : Nat) : (run a k).length = k := by simp [run]
theorem run_snoc (a : Int) (k : Nat) : run a k ++ [a + (k : Int)] = run a (k + 1) := by simp [run, List.range_succ]
theorem run_cons (a : Int) (k : Nat) : run a (k + 1) = a :: run (a + 1) k := by
  apply List.ext_getElem
  · simp [run]
  · intro i h1 h2
    cases i with
    | zero => simp [run]
    | succ i => simp [run]; omega

theorem int_eq {a b : Int} (h : a = b) : Value.int .i64 a = .int .i64 b := by rw [h]
theorem r1_len_run {w0 w : World} {p cap k : Nat} {a : Int} (h : R1 w0 w p cap (run a k)) : Calls Try.prog 43 #[.pointer (some ⟨p, 0, none⟩)] w fun e w' => e = .returned (.int .i64 (k : Int)) ∧ w' = w := by
  have := r1_len h
  rw [run_len] at this
  exact this
set_option maxHeartbeats 4000000 in
set_option maxRecDepth 100000 in
theorem ringTurn_walk (room n : Int) (w : World) (wa : (Lit.int .i64 room).wf = true) (wb : (Lit.int .i64 n).wf = true) :
    Calls Try.prog 7 #[.int .i64 room, .int .i64 n] w fun e w' => e = .returned (.bool true) ∧ Below w.heap.size w w' := by
  have ba := bounds_i64 wa
  have bb := bounds_i64 wb
  clear wa wb
  by_cases c1 : room < 1
  · go_enter Try.func7, Try.ntmps7
    go_wp2_with (go_at_call 22; refine (begun2 w).mono ?_; rintro e w1 ⟨rfl, hb⟩; have HB := Lib.hid hb; clear hb)
    go_ret
    exact ⟨rfl, HB.out⟩
  by_cases c2 : room > 20
  · go_enter Try.func7, Try.ntmps7
    go_wp2_with (go_at_call 22; refine (begun2 w).mono ?_; rintro e w1 ⟨rfl, hb⟩; have HB := Lib.hid hb; clear hb)
    go_ret
    exact ⟨rfl, HB.out⟩
  by_cases c3 : n < 0
  · go_enter Try.func7, Try.ntmps7
    go_wp2_with (go_at_call 22; refine (begun2 w).mono ?_; rintro e w1 ⟨rfl, hb⟩; have HB := Lib.hid hb; clear hb)
    go_ret
    exact ⟨rfl, HB.out⟩
  by_cases c4 : n > 200
  · go_enter Try.func7, Try.ntmps7
    go_wp2_with (go_at_call 22; refine (begun2 w).mono ?_; rintro e w1 ⟨rfl, hb⟩; have HB := Lib.hid hb; clear hb)
    go_ret
    exact ⟨rfl, HB.out⟩
  obtain ⟨cap, rfl⟩ : ∃ cap : Nat, room = (cap : Int) := ⟨room.toNat, by omega⟩
  have hcap : 1 ≤ cap ∧ cap ≤ 20 := by omega
  have ecap : (min (max (cap : Int) 0) 1000).toNat = cap := by omega
  have ECAP := Lib.hid ecap
  clear ecap ba bb
  go_enter Try.func7, Try.ntmps7
  go_wp2_with (first
    | (go_at_call 22; refine (begun2 w).mono ?_; rintro e w1 ⟨rfl, hb⟩; have HB := Lib.hid hb; clear hb)
    | (go_at_call 41; refine (r1_new HB.out (cap : Int) (by omega)).mono ?_; rintro e w2 ⟨p, rfl, h⟩; rw [ECAP.out] at h; have R0 := Lib.hid h; clear h HB))
  go_loopw [7, 8, 9] (fun next first i wr => ∃ (k : Nat) (f : Int) (j : Nat), next = .int .i64 (f + (k : Int)) ∧ first = .int .i64 f ∧ i = .int .i64 (j : Int) ∧ Hid (R1 w wr p cap (run f k)) ∧ 0 ≤ f ∧ f ≤ 20 * (j : Int) ∧ k ≤ cap ∧ (j : Int) ≤ 200) (fun _ _ i _ => 201 - (intOf i).toNat)
  case atStart => exact ⟨0, 0, 0, rfl, rfl, rfl, R0, by omega, by omega, by omega, by omega⟩
  case round =>
    obtain ⟨k, f, j, rfl, rfl, rfl, HR, hf0, hf1, hk, hj⟩ := hrel
    clear R0
    by_cases hlt : (j : Int) < n
    · go_wp2
      go_loopw [7] (fun next wr => ∃ k' : Nat, next = .int .i64 (f + (k' : Int)) ∧ Hid (R1 w wr p cap (run f k')) ∧ k' ≤ cap) (fun next _ => (cap + f - intOf next).toNat)
      case atStart => exact ⟨k, rfl, HR, hk⟩
      case round =>
        obtain ⟨k', rfl, HR', hk'⟩ := hrel
        clear HR
        by_cases hfull : k' < cap
        · go_wp2_with (go_at_call 42; refine (r1_put HR'.out _ (by rw [run_len]; omega)).mono ?_; rintro e w3 ⟨rfl, h⟩; rw [run_snoc] at h; have H := Lib.hid h; clear h)
          exact ⟨⟨k' + 1, int_eq (by omega), H, by omega⟩, by simp [intOf]; omega⟩
        · obtain rfl : k' = cap := by omega
          have e49 : f + (k' : Int) - f = k' := by omega
          go_wp2_with (first
            | (go_at_call 42; refine (r1_full HR'.out _ (by rw [run_len]; omega)).mono ?_; rintro e w3 ⟨rfl, h⟩; have H := Lib.hid h; clear h; have HL := Lib.hid (r1_len_run H.out))
            | (go_at_call 43; refine HL.out.mono ?_; rintro e w4 ⟨rfl, rfl⟩))
          have hq0 := Int.emod_nonneg (j : Int) (show (k' : Int) ≠ 0 by omega)
          have hq1 := Int.emod_lt_of_pos (j : Int) (show (0 : Int) < k' by omega)
          have HQ : Hid (0 ≤ (j : Int) % (k' : Int) ∧ (j : Int) % (k' : Int) < k') := Lib.hid ⟨hq0, hq1⟩
          clear hq0 hq1 HR' HL e49
          go_loopw [8, 10] (fun first kk wr => ∃ t : Nat, first = .int .i64 (f + (t : Int)) ∧ kk = .int .i64 (t : Int) ∧ Hid (R1 w wr p k' (run (f + (t : Int)) (k' - t))) ∧ t ≤ k' ∧ (t : Int) ≤ (j : Int) % (k' : Int) + 1) (fun _ kk _ => 30 - (intOf kk).toNat)
          case atStart => exact ⟨0, int_eq (by omega), rfl, by simpa using H, by omega, by have := HQ.out; omega⟩
          case round =>
            obtain ⟨t, rfl, rfl, HT, ht1, ht2⟩ := hrel
            by_cases hin : (t : Int) ≤ (j : Int) % (k' : Int)
            · have hq := HQ.out
              have e1 : k' - t = (k' - (t + 1)) + 1 := by omega
              have HT2 := HT.out
              rw [e1, run_cons] at HT2
              have HT3 := Lib.hid HT2
              clear HT2 e1 hq
              go_wp2_with (go_at_call 44; refine (r1_take HT3.out).mono ?_; rintro e w5 ⟨rfl, h⟩; have H5 := Lib.hid h; clear h)
              have hq := HQ.out
              exact ⟨⟨t + 1, int_eq (by omega), int_eq (by omega), by rw [show f + ((t + 1 : Nat) : Int) = f + (t : Int) + 1 by omega]; exact H5, by omega, by omega⟩, by simp [intOf]; omega⟩
            · go_wp2
              have hq := HQ.out
              exact ⟨⟨k' - t, f + (t : Int), j + 1, int_eq (by omega), rfl, int_eq (by omega), HT, by omega, by omega, by omega, by omega⟩, by simp [intOf]; omega⟩
    · go_wp2
      go_ret
      exact ⟨rfl, HR.out.bel⟩
end Go.Proofs.Ytpmamgdblbplcaa.On
