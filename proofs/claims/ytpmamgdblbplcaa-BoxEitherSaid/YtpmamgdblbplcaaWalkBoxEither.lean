/- BoxEither: the walk. -/
import Derived.Test.YtpmamgdblbplcaaOne
import Derived.OpenShut
import Derived.WalkArith
namespace Go.Proofs.Ytpmamgdblbplcaa.On
open Go.RowKit Go.Proofs.Ytpmamgdblbplcaa.HeapModel Go.Proofs.Ytpmamgdblbplcaa.Bg
set_option linter.unusedVariables false
set_option linter.unusedSimpArgs false
theorem int_eqB {a b : Int} (h : a = b) : Value.int .i64 a = .int .i64 b := by rw [h]
theorem bs1_more20 {w0 w : World} {p cap : Nat} {s : List ByteArray} (h : BS1 w0 w p cap s) :
    Calls Try.prog 57 #[.int .i64 20] w fun e w' => ∃ q, e = .returned (.pointer (some ⟨q, 0, none⟩)) ∧ BS2 w0 w' p cap s q 20 [] := bs1_more h 20 (by omega)
theorem rep_snoc {α : Type} (x : α) (k : Nat) : List.replicate k x ++ [x] = List.replicate (k + 1) x := by rw [List.replicate_succ']

theorem mod20 (m : Int) : ∃ M : Nat, (wrap64 (m.tmod 20 + 20)).tmod 20 = (M : Int) ∧ M < 20 := by
  have h1 := Int.tmod_lt_of_pos m (show (0 : Int) < 20 by omega)
  have h2 := Int.lt_tmod_of_pos m (show (0 : Int) < 20 by omega)
  generalize m.tmod 20 = x at h1 h2 ⊢
  have e : wrap64 (x + 20) = x + 20 := by unfold wrap64; omega
  rw [e, Int.tmod_eq_emod_of_nonneg (by omega)]
  exact ⟨((x + 20) % 20).toNat, by omega, by omega⟩
def ta : ByteArray := ⟨#[97]⟩
def tb : ByteArray := ⟨#[98]⟩
def reps (x : ByteArray) (k : Nat) : List ByteArray := List.replicate k x
theorem reps_len (x : ByteArray) (k : Nat) : (reps x k).length = k := List.length_replicate
theorem reps_snoc (x : ByteArray) (k : Nat) : reps x k ++ [x] = reps x (k + 1) := rep_snoc x k
theorem reps_cons (x : ByteArray) (k : Nat) : reps x (k + 1) = x :: reps x k := rfl
section
variable {w0 w : World} {p q i j : Nat}
theorem e_puta (h : BS2 w0 w p 20 (reps ta i) q 20 (reps tb j)) (hi : i < 20) : Calls Try.prog 58 #[.pointer (some ⟨p, 0, none⟩), .string ⟨#[97]⟩] w fun e w' => e = .returned (.bool true) ∧ BS2 w0 w' p 20 (reps ta (i + 1)) q 20 (reps tb j) := by
  have := bs2_putp h ta (by rw [reps_len]; exact hi)
  rw [reps_snoc] at this
  exact this
theorem e_putb (h : BS2 w0 w p 20 (reps ta i) q 20 (reps tb j)) (hj : j < 20) : Calls Try.prog 58 #[.pointer (some ⟨q, 0, none⟩), .string ⟨#[98]⟩] w fun e w' => e = .returned (.bool true) ∧ BS2 w0 w' p 20 (reps ta i) q 20 (reps tb (j + 1)) := by
  have := bs2_putq h tb (by rw [reps_len]; exact hj)
  rw [reps_snoc] at this
  exact this
theorem e_first (h : BS2 w0 w p 20 (reps ta (i + 1)) q 20 (reps tb j)) : Calls Try.prog 59 #[.pointer (some ⟨p, 0, none⟩), .pointer (some ⟨q, 0, none⟩)] w fun e w' => e = .returned (.tuple #[.string ⟨#[97]⟩, .int .i64 1]) ∧ BS2 w0 w' p 20 (reps ta i) q 20 (reps tb j) := bs2_first h
theorem e_second (h : BS2 w0 w p 20 (reps ta 0) q 20 (reps tb (j + 1))) : Calls Try.prog 59 #[.pointer (some ⟨p, 0, none⟩), .pointer (some ⟨q, 0, none⟩)] w fun e w' => e = .returned (.tuple #[.string ⟨#[98]⟩, .int .i64 2]) ∧ BS2 w0 w' p 20 (reps ta 0) q 20 (reps tb j) := bs2_second h
theorem e_none (h : BS2 w0 w p 20 (reps ta 0) q 20 (reps tb 0)) : Calls Try.prog 59 #[.pointer (some ⟨p, 0, none⟩), .pointer (some ⟨q, 0, none⟩)] w fun e w' => e = .returned (.tuple #[.string ⟨#[]⟩, .int .i64 0]) ∧ w' = w := bs2_none h
theorem e_nil (h : BS2 w0 w p 20 (reps ta 0) q 20 (reps tb 0)) : Calls Try.prog 59 #[.pointer none, .pointer (some ⟨q, 0, none⟩)] w fun e w' => e = .returned (.tuple #[.string ⟨#[]⟩, .int .i64 0]) ∧ w' = w := Bs.either_none (Bs.nil_take w) (bs2_noq h)
theorem e_lena (h : BS2 w0 w p 20 (reps ta 0) q 20 (reps tb 0)) : Calls Try.prog 60 #[.pointer (some ⟨p, 0, none⟩)] w fun e w' => e = .returned (.int .i64 0) ∧ w' = w := bs2_lenp h
theorem e_lenb (h : BS2 w0 w p 20 (reps ta 0) q 20 (reps tb 0)) : Calls Try.prog 60 #[.pointer (some ⟨q, 0, none⟩)] w fun e w' => e = .returned (.int .i64 0) ∧ w' = w := bs2_lenq h
end
set_option maxHeartbeats 4000000 in
set_option maxRecDepth 100000 in
theorem boxEither_walk (m n : Int) (w : World) (wa : (Lit.int .i64 m).wf = true) (wb : (Lit.int .i64 n).wf = true) :
    Calls Try.prog 12 #[.int .i64 m, .int .i64 n] w fun e w' => e = .returned (.bool true) ∧ Below w.heap.size w w' := by
  clear wa wb
  obtain ⟨M, hM, hM2⟩ := mod20 m
  obtain ⟨N, hN, hN2⟩ := mod20 n
  go_enter Try.func12, Try.ntmps12
  go_wp2_with (first
    | (go_at_call 22; refine (begun2 _).mono ?_; rintro e w1 ⟨rfl, hb⟩; have HB := Lib.hid hb; clear hb)
    | (go_at_call 57; refine (bs1_new HB.out 20 (by omega)).mono ?_; rintro e w2 ⟨p, rfl, h⟩; have B1 := Lib.hid h; clear h HB)
    | (go_at_call 57; refine (bs1_more20 B1.out).mono ?_; rintro e w3 ⟨q, rfl, h⟩; have B2 : Hid (BS2 w w3 p 20 (reps ta 0) q 20 (reps tb 0)) := Lib.hid h; clear h B1))
  clear hM hN
  go_loopw [8] (fun i wr => ∃ j : Nat, i = .int .i64 (j : Int) ∧ Hid (BS2 w wr p 20 (reps ta (min j M)) q 20 (reps tb (min j N))) ∧ j ≤ max M N) (fun i _ => 40 - (intOf i).toNat)
  case atStart => exact ⟨0, rfl, by rw [show min 0 M = 0 by omega, show min 0 N = 0 by omega]; exact B2, by omega⟩
  case round =>
    obtain ⟨j, rfl, HR, hj⟩ := hrel
    clear B2
    by_cases hMN : (M : Int) < (N : Int)
    · by_cases hj1 : (j : Int) < (M : Int)
      · have hj2 : (j : Int) < (N : Int) := by omega
        have HR2 : Hid (BS2 w wr p 20 (reps ta j) q 20 (reps tb j)) := by rw [show min j M = j by omega, show min j N = j by omega] at HR; exact HR
        clear HR
        go_wp2_with (first
          | (go_at_call 58; refine (e_puta HR2.out (by omega)).mono ?_; rintro e w4 ⟨rfl, h⟩; have H := Lib.hid h; clear h HR2)
          | (go_at_call 58; refine (e_putb H.out (by omega)).mono ?_; rintro e w5 ⟨rfl, h⟩; have H2 := Lib.hid h; clear h H))
        exact ⟨⟨j + 1, int_eqB (by omega), by rw [show min (j + 1) M = j + 1 by omega, show min (j + 1) N = j + 1 by omega]; exact H2, by omega⟩, by simp [intOf]; omega⟩
      · by_cases hj2 : (j : Int) < (N : Int)
        · have HR2 : Hid (BS2 w wr p 20 (reps ta M) q 20 (reps tb j)) := by rw [show min j M = M by omega, show min j N = j by omega] at HR; exact HR
          clear HR
          go_wp2_with (go_at_call 58; refine (e_putb HR2.out (by omega)).mono ?_; rintro e w4 ⟨rfl, h⟩; have H := Lib.hid h; clear h HR2)
          exact ⟨⟨j + 1, int_eqB (by omega), by rw [show min (j + 1) M = M by omega, show min (j + 1) N = j + 1 by omega]; exact H, by omega⟩, by simp [intOf]; omega⟩
        · have HR2 : Hid (BS2 w wr p 20 (reps ta M) q 20 (reps tb N)) := by rw [show min j M = M by omega, show min j N = N by omega] at HR; exact HR
          clear HR
          go_wp2
          go_loopw [9] (fun i wr => ∃ t : Nat, i = .int .i64 (t : Int) ∧ Hid (BS2 w wr p 20 (reps ta (M - t)) q 20 (reps tb (N - (t - M)))) ∧ t ≤ M + N) (fun i _ => 60 - (intOf i).toNat)
          case atStart => exact ⟨0, rfl, by rw [show M - 0 = M by omega, show N - (0 - M) = N by omega]; exact HR2, by omega⟩
          case round =>
            obtain ⟨t, rfl, HR, ht⟩ := hrel
            clear HR2
            by_cases hl : (t : Int) < (M : Int) + (N : Int)
            · by_cases ha : (t : Int) < (M : Int)
              · have HR3 : Hid (BS2 w wr p 20 (reps ta (M - (t + 1) + 1)) q 20 (reps tb N)) := by rw [show M - t = M - (t + 1) + 1 by omega, show N - (t - M) = N by omega] at HR; exact HR
                clear HR
                go_wp2_with (go_at_call 59; refine (e_first HR3.out).mono ?_; rintro e w4 ⟨rfl, h⟩; have H := Lib.hid h; clear h HR3)
                exact ⟨⟨t + 1, int_eqB (by omega), by rw [show N - (t + 1 - M) = N by omega]; exact H, by omega⟩, by simp [intOf]; omega⟩
              · have HR3 : Hid (BS2 w wr p 20 (reps ta 0) q 20 (reps tb (N - (t + 1 - M) + 1))) := by rw [show M - t = 0 by omega, show N - (t - M) = N - (t + 1 - M) + 1 by omega] at HR; exact HR
                clear HR
                go_wp2_with (go_at_call 59; refine (e_second HR3.out).mono ?_; rintro e w4 ⟨rfl, h⟩; have H := Lib.hid h; clear h HR3)
                exact ⟨⟨t + 1, int_eqB (by omega), by rw [show M - (t + 1) = 0 by omega]; exact H, by omega⟩, by simp [intOf]; omega⟩
            · have HR3 : Hid (BS2 w wr p 20 (reps ta 0) q 20 (reps tb 0)) := by rw [show M - t = 0 by omega, show N - (t - M) = 0 by omega] at HR; exact HR
              clear HR
              go_wp2_with (first
                | (go_at_call 59; ((with_reducible refine (e_none HR3.out).mono ?_); rintro e wx ⟨rfl, rfl⟩))
                | (go_at_call 59; ((with_reducible refine (e_nil HR3.out).mono ?_); rintro e wx ⟨rfl, rfl⟩))
                | (go_at_call 60; ((with_reducible refine (e_lena HR3.out).mono ?_); rintro e wx ⟨rfl, rfl⟩))
                | (go_at_call 60; ((with_reducible refine (e_lenb HR3.out).mono ?_); rintro e wx ⟨rfl, rfl⟩)))
              go_ret
              exact ⟨rfl, HR3.out.bel⟩
    · by_cases hj1 : (j : Int) < (N : Int)
      · have hj2 : (j : Int) < (M : Int) := by omega
        have HR2 : Hid (BS2 w wr p 20 (reps ta j) q 20 (reps tb j)) := by rw [show min j M = j by omega, show min j N = j by omega] at HR; exact HR
        clear HR
        go_wp2_with (first
          | (go_at_call 58; refine (e_puta HR2.out (by omega)).mono ?_; rintro e w4 ⟨rfl, h⟩; have H := Lib.hid h; clear h HR2)
          | (go_at_call 58; refine (e_putb H.out (by omega)).mono ?_; rintro e w5 ⟨rfl, h⟩; have H2 := Lib.hid h; clear h H))
        exact ⟨⟨j + 1, int_eqB (by omega), by rw [show min (j + 1) M = j + 1 by omega, show min (j + 1) N = j + 1 by omega]; exact H2, by omega⟩, by simp [intOf]; omega⟩
      · by_cases hj2 : (j : Int) < (M : Int)
        · have HR2 : Hid (BS2 w wr p 20 (reps ta j) q 20 (reps tb N)) := by rw [show min j M = j by omega, show min j N = N by omega] at HR; exact HR
          clear HR
          go_wp2_with (go_at_call 58; refine (e_puta HR2.out (by omega)).mono ?_; rintro e w4 ⟨rfl, h⟩; have H := Lib.hid h; clear h HR2)
          exact ⟨⟨j + 1, int_eqB (by omega), by rw [show min (j + 1) M = j + 1 by omega, show min (j + 1) N = N by omega]; exact H, by omega⟩, by simp [intOf]; omega⟩
        · have HR2 : Hid (BS2 w wr p 20 (reps ta M) q 20 (reps tb N)) := by rw [show min j M = M by omega, show min j N = N by omega] at HR; exact HR
          clear HR
          go_wp2
          go_loopw [9] (fun i wr => ∃ t : Nat, i = .int .i64 (t : Int) ∧ Hid (BS2 w wr p 20 (reps ta (M - t)) q 20 (reps tb (N - (t - M)))) ∧ t ≤ M + N) (fun i _ => 60 - (intOf i).toNat)
          case atStart => exact ⟨0, rfl, by rw [show M - 0 = M by omega, show N - (0 - M) = N by omega]; exact HR2, by omega⟩
          case round =>
            obtain ⟨t, rfl, HR, ht⟩ := hrel
            clear HR2
            by_cases hl : (t : Int) < (M : Int) + (N : Int)
            · by_cases ha : (t : Int) < (M : Int)
              · have HR3 : Hid (BS2 w wr p 20 (reps ta (M - (t + 1) + 1)) q 20 (reps tb N)) := by rw [show M - t = M - (t + 1) + 1 by omega, show N - (t - M) = N by omega] at HR; exact HR
                clear HR
                go_wp2_with (go_at_call 59; refine (e_first HR3.out).mono ?_; rintro e w4 ⟨rfl, h⟩; have H := Lib.hid h; clear h HR3)
                exact ⟨⟨t + 1, int_eqB (by omega), by rw [show N - (t + 1 - M) = N by omega]; exact H, by omega⟩, by simp [intOf]; omega⟩
              · have HR3 : Hid (BS2 w wr p 20 (reps ta 0) q 20 (reps tb (N - (t + 1 - M) + 1))) := by rw [show M - t = 0 by omega, show N - (t - M) = N - (t + 1 - M) + 1 by omega] at HR; exact HR
                clear HR
                go_wp2_with (go_at_call 59; refine (e_second HR3.out).mono ?_; rintro e w4 ⟨rfl, h⟩; have H := Lib.hid h; clear h HR3)
                exact ⟨⟨t + 1, int_eqB (by omega), by rw [show M - (t + 1) = 0 by omega]; exact H, by omega⟩, by simp [intOf]; omega⟩
            · have HR3 : Hid (BS2 w wr p 20 (reps ta 0) q 20 (reps tb 0)) := by rw [show M - t = 0 by omega, show N - (t - M) = 0 by omega] at HR; exact HR
              clear HR
              go_wp2_with (first
                | (go_at_call 59; ((with_reducible refine (e_none HR3.out).mono ?_); rintro e wx ⟨rfl, rfl⟩))
                | (go_at_call 59; ((with_reducible refine (e_nil HR3.out).mono ?_); rintro e wx ⟨rfl, rfl⟩))
                | (go_at_call 60; ((with_reducible refine (e_lena HR3.out).mono ?_); rintro e wx ⟨rfl, rfl⟩))
                | (go_at_call 60; ((with_reducible refine (e_lenb HR3.out).mono ?_); rintro e wx ⟨rfl, rfl⟩)))
              go_ret
              exact ⟨rfl, HR3.out.bel⟩
end Go.Proofs.Ytpmamgdblbplcaa.On
