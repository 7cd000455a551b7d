/- HeapKeys: the walk. -/
import Derived.Test.YtpmamgdblbplcaaBgB
namespace Go.Proofs.Ytpmamgdblbplcaa.Bg
open Go.RowKit Go.Proofs.Ytpmamgdblbplcaa.HeapModel Go.Proofs.Ytpmamgdblbplcaa.Ow
set_option linter.unusedVariables false
set_option linter.unusedSimpArgs false

theorem keys_least_lt {b c : Int} (h : c < b) : least [(⟨2, b, 0, 2⟩ : It Int), ⟨1, c, 0, 3⟩] = some ⟨1, c, 0, 3⟩ := by
  have : lt (⟨1, c, 0, 3⟩ : It Int) ⟨2, b, 0, 2⟩ = true := by rw [lt_iff]; exact Or.inl h
  simp [least, this]
theorem keys_least_ge {b c : Int} (h : ¬ c < b) : least [(⟨2, b, 0, 2⟩ : It Int), ⟨1, c, 0, 3⟩] = some ⟨2, b, 0, 2⟩ := by
  have : lt (⟨1, c, 0, 3⟩ : It Int) ⟨2, b, 0, 2⟩ = false := by
    rw [Bool.eq_false_iff, ne_eq, lt_iff]
    simp only
    omega
  simp [least, this]
theorem keys_one {x : It Int} : least [x] = some x := rfl

set_option maxHeartbeats 1000000 in
set_option maxRecDepth 100000 in
theorem heapKeys_walk (a b c : Int) (w : World) (wa : (Lit.int .i64 a).wf = true) (wb : (Lit.int .i64 b).wf = true) (wc : (Lit.int .i64 c).wf = true) :
    Calls Try.prog 6 #[.int .i64 a, .int .i64 b, .int .i64 c] w fun e w' => e = .returned (.bool true) ∧ Below w.heap.size w w' := by
  have f1 : Hp.fits 1 := by unfold Hp.fits; decide
  have f2 : Hp.fits 2 := by unfold Hp.fits; decide
  clear wa wb wc
  by_cases hcb : c < b
  · have K1 := Lib.hid (keys_least_lt hcb)
    go_enter Try.func6, Try.ntmps6
    go_wp2_with (first
      | (go_at_call 22; refine (begun2 w).mono ?_; rintro e w1 ⟨rfl, hb⟩; have HB := Lib.hid hb; clear hb)
      | (go_at_call 23; refine (h1_new HB.out 3 (by omega)).mono ?_; rintro e w2 ⟨p, rfl, h⟩; have B1 : Hid (H1 w w2 p 3 [] 0) := Lib.hid h; clear h HB)
      | (go_at_call 25; refine (h1_put B1.out 1 a 0 f1 (by decide) (by decide)).mono ?_; rintro e w3 ⟨rfl, h⟩; have B2 : Hid (H1 w w3 p 3 [⟨1, a, 0, 1⟩] 1) := Lib.hid h; clear h B1)
      | (go_at_call 25; refine (h1_put B2.out 2 b 0 f2 (by decide) (Or.inr (by simp))).mono ?_; rintro e w4 ⟨rfl, h⟩; have B3 : Hid (H1 w w4 p 3 [⟨1, a, 0, 1⟩, ⟨2, b, 0, 2⟩] 2) := Lib.hid h; clear h B2)
      | (go_at_call 25; refine (h1_put B3.out 1 c 0 f1 (by decide) (Or.inr (by simp))).mono ?_; rintro e w5 ⟨rfl, h⟩; have B4 : Hid (H1 w w5 p 3 [⟨2, b, 0, 2⟩, ⟨1, c, 0, 3⟩] 3) := Lib.hid h; clear h B3)
      | (go_at_call 31; refine (h1_key B4.out ⟨1, c, 0, 3⟩ (by simp)).mono ?_; rintro e w6 ⟨rfl, h⟩; have B5 := Lib.hid h; clear h B4)
      | (go_at_call 27; refine (h1_take B5.out K1.out).mono ?_; rintro e w7 ⟨rfl, h⟩; have B6 : Hid (H1 w w7 p 3 [⟨2, b, 0, 2⟩] 3) := Lib.hid h; clear h B5)
      | (go_at_call 27; refine (h1_take B6.out keys_one).mono ?_; rintro e w8 ⟨rfl, h⟩; have B7 : Hid (H1 w w8 p 3 [] 3) := Lib.hid h; clear h B6)
      | (go_at_call 35; refine (h1_len B7.out).mono ?_; rintro e w9 ⟨rfl, rfl⟩))
    go_ret
    exact ⟨rfl, B7.out.bel⟩
  · have K1 := Lib.hid (keys_least_ge hcb)
    go_enter Try.func6, Try.ntmps6
    go_wp2_with (first
      | (go_at_call 22; refine (begun2 w).mono ?_; rintro e w1 ⟨rfl, hb⟩; have HB := Lib.hid hb; clear hb)
      | (go_at_call 23; refine (h1_new HB.out 3 (by omega)).mono ?_; rintro e w2 ⟨p, rfl, h⟩; have B1 : Hid (H1 w w2 p 3 [] 0) := Lib.hid h; clear h HB)
      | (go_at_call 25; refine (h1_put B1.out 1 a 0 f1 (by decide) (by decide)).mono ?_; rintro e w3 ⟨rfl, h⟩; have B2 : Hid (H1 w w3 p 3 [⟨1, a, 0, 1⟩] 1) := Lib.hid h; clear h B1)
      | (go_at_call 25; refine (h1_put B2.out 2 b 0 f2 (by decide) (Or.inr (by simp))).mono ?_; rintro e w4 ⟨rfl, h⟩; have B3 : Hid (H1 w w4 p 3 [⟨1, a, 0, 1⟩, ⟨2, b, 0, 2⟩] 2) := Lib.hid h; clear h B2)
      | (go_at_call 25; refine (h1_put B3.out 1 c 0 f1 (by decide) (Or.inr (by simp))).mono ?_; rintro e w5 ⟨rfl, h⟩; have B4 : Hid (H1 w w5 p 3 [⟨2, b, 0, 2⟩, ⟨1, c, 0, 3⟩] 3) := Lib.hid h; clear h B3)
      | (go_at_call 31; refine (h1_key B4.out ⟨1, c, 0, 3⟩ (by simp)).mono ?_; rintro e w6 ⟨rfl, h⟩; have B5 := Lib.hid h; clear h B4)
      | (go_at_call 27; refine (h1_take B5.out K1.out).mono ?_; rintro e w7 ⟨rfl, h⟩; have B6 : Hid (H1 w w7 p 3 [⟨1, c, 0, 3⟩] 3) := Lib.hid h; clear h B5)
      | (go_at_call 27; refine (h1_take B6.out keys_one).mono ?_; rintro e w8 ⟨rfl, h⟩; have B7 : Hid (H1 w w8 p 3 [] 3) := Lib.hid h; clear h B6)
      | (go_at_call 35; refine (h1_len B7.out).mono ?_; rintro e w9 ⟨rfl, rfl⟩))
    go_ret
    exact ⟨rfl, B7.out.bel⟩
end Go.Proofs.Ytpmamgdblbplcaa.Bg
