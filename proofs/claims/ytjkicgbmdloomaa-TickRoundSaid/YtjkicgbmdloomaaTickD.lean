/- The laws TickRound and TickLess: their pure statements. -/
import Derived.Test.YtjkicgbmdloomaaTickC
namespace Go.Proofs.Ytjkicgbmdloomaa.TickD
open Go.RowKit Go.Proofs.Ytjkicgbmdloomaa.PTick Go.Proofs.Ytjkicgbmdloomaa.Math Go.Proofs.Ytjkicgbmdloomaa.TickA Go.Proofs.YtjkicgbmdloomaaW.PrintWords Go.Proofs.YtjkicgbmdloomaaW.PrintLast

theorem tmod_zero {a b : Int} : Int.tmod a b = 0 ↔ a % b = 0 := by
  rw [← Int.dvd_iff_tmod_eq_zero, Int.dvd_iff_emod_eq_zero]

theorem TickRound_pure : hortatorlaw1_TickRound.Pure := by
  intro a b c ha hb hc
  have ha := fits_of_wf ha
  have hb := fits_of_wf hb
  have hc := fits_of_wf hc
  refine ⟨10, ?_⟩
  unfold hortatorlaw1_TickRound.f
  rw [begun_at 10 (by omega)]; simp only [Option.bind_some, if_true]
  have ht : hortatorlaw1_TickRound.j0 10 a b c true = some true := by simp only [hortatorlaw1_TickRound.j0]; rfl
  by_cases c1 : b < 1
  · rw [if_pos c1, ht]
  by_cases c2 : b > 2147483648
  · rw [if_neg c1, if_pos c2, ht]
  by_cases c3 : a > 2147483648
  · rw [if_neg c1, if_neg c2, if_pos c3, ht]
  by_cases c4 : a < -2147483648
  · rw [if_neg c1, if_neg c2, if_neg c3, decide_eq_true c4, ht]
  rw [if_neg c1, if_neg c2, if_neg c3, decide_eq_false c4]
  simp only [hortatorlaw1_TickRound.j0]
  have hb0 : 0 < b := by omega
  have fm : Fits (-a) := ⟨by omega, by omega⟩
  rw [up_f ha, down_f ha]; simp only [Option.bind_some]
  have wm : wrap64 (-a) = -a := by unfold wrap64; omega
  rw [wm, down_f fm]
  -- the product
  have hc2 : -1048576 < Int.tmod c 1048576 ∧ Int.tmod c 1048576 < 1048576 := by
    have := Int.tmod_lt_of_pos c (b := 1048576) (by omega)
    have h2 := Int.tmod_lt_of_pos (-c) (b := 1048576) (by omega)
    rw [Int.neg_tmod] at h2
    omega
  generalize Int.tmod c 1048576 = t at *
  have hp : -2251799813685248 ≤ t * b ∧ t * b ≤ 2251799813685248 := by
    have h : t.natAbs * b.natAbs ≤ 1048576 * 2147483648 := Nat.mul_le_mul (by omega) (by omega)
    rw [← Int.natAbs_mul] at h
    omega
  have wp : wrap64 (t * b) = t * b := by unfold wrap64; omega
  have fp : Fits (t * b) := ⟨by omega, by omega⟩
  rw [wp, up_f fp, down_f fp]
  have e1 : upq (t * b) b = t := by
    unfold upq
    rw [if_neg (by omega), ← Int.neg_mul, Int.mul_ediv_cancel _ (by omega)]; omega
  have e2 : dnq (t * b) b = t := by
    unfold dnq
    rw [if_neg (by omega), Int.mul_ediv_cancel _ (by omega)]
  rw [e1, e2]
  have ed : dnq a b = a / b := by unfold dnq; rw [if_neg (by omega)]
  have eu : upq a b = -((-a) / b) := by unfold upq; rw [if_neg (by omega)]
  have en : dnq (-a) b = (-a) / b := by unfold dnq; rw [if_neg (by omega)]
  rw [ed, eu, en]
  have h1 := Int.emod_nonneg a (b := b) (by omega)
  have h2 := Int.emod_lt_of_pos a hb0
  have h3 := Int.mul_ediv_add_emod a b
  have g1 := Int.emod_nonneg (-a) (b := b) (by omega)
  have g2 := Int.emod_lt_of_pos (-a) hb0
  have g3 := Int.mul_ediv_add_emod (-a) b
  have bd1 := ediv_bd (a := a) hb0 2147483648 (by omega) (by omega)
  have bd2 := ediv_bd' (a := a) hb0 2147483648 (by omega) (by omega)
  have bd3 := ediv_bd (a := -a) hb0 2147483648 (by omega) (by omega)
  have bd4 := ediv_bd' (a := -a) hb0 2147483648 (by omega) (by omega)
  have hz : a % b = 0 ↔ (-a) / b = -(a / b) := by
    constructor
    · intro h
      have : b * ((-a) / b + a / b) = -((-a) % b) := by rw [Int.mul_add]; omega
      have l1 : (-a) / b + a / b < 1 := by apply Int.lt_of_mul_lt_mul_left (a := b) _ (by omega); omega
      have l2 : -1 < (-a) / b + a / b := by apply Int.lt_of_mul_lt_mul_left (a := b) _ (by omega); omega
      omega
    · intro h
      rw [h, Int.mul_neg] at g3
      omega
  have hs : (-a) / b + a / b = 0 ∨ (-a) / b + a / b = -1 := by
    have : b * ((-a) / b + a / b) = -((-a) % b) - a % b := by rw [Int.mul_add]; omega
    have l1 : (-a) / b + a / b < 1 := by apply Int.lt_of_mul_lt_mul_left (a := b) _ (by omega); omega
    have l2 : -2 < (-a) / b + a / b := by apply Int.lt_of_mul_lt_mul_left (a := b) _ (by omega); omega
    omega
  have m1 : a / b * b = b * (a / b) := Int.mul_comm _ _
  have m2 : -((-a) / b) * b = -(b * ((-a) / b)) := by rw [Int.neg_mul, Int.mul_comm]
  have w1 : wrap64 (a / b * b) = a / b * b := by rw [m1]; unfold wrap64; omega
  have w2 : wrap64 (-((-a) / b) * b) = -((-a) / b) * b := by rw [m2]; unfold wrap64; omega
  have w3 : wrap64 (-((-a) / b) - a / b) = -((-a) / b) - a / b := by unfold wrap64; omega
  have w4 : wrap64 (-((-a) / b)) = -((-a) / b) := by unfold wrap64; omega
  rw [w1, w2, w3, m1, m2]
  rw [if_neg (by simp), if_pos (by omega), if_pos (by omega), if_pos (by omega), if_neg (by omega)]
  have eq : ((-((-a) / b) == a / b) == (Int.tmod a b == 0)) = true := by
    rw [beq_iff_eq, Bool.eq_iff_iff, beq_iff_eq, beq_iff_eq, tmod_zero, hz]
    omega
  rw [if_pos eq]
  simp only [Option.bind_some, if_true]
  rw [w4]
  simp

theorem frac_asymm {a b c d : Int} : ¬ (a * d < c * b ∧ c * b < a * d) := by omega

theorem TickLess_pure : hortatorlaw1_TickLess.Pure := by
  intro a b c d e f ha hb hc hd he hf
  have ha := fits_of_wf ha
  have hb := fits_of_wf hb
  have hc := fits_of_wf hc
  have hd := fits_of_wf hd
  have he := fits_of_wf he
  have hf := fits_of_wf hf
  refine ⟨10, ?_⟩
  unfold hortatorlaw1_TickLess.f
  rw [begun_at 10 (by omega)]; simp only [Option.bind_some, if_true]
  have ht : b < 1 ∨ d < 1 ∨ f < 1 → hortatorlaw1_TickLess.j0 10 a b c d e f true = some true := by
    intro _
    simp only [hortatorlaw1_TickLess.j0]
    rw [less_f ha hb hc hd]
    simp only [Option.bind_some, if_true]
    by_cases h : 0 < b ∧ 0 < d ∧ a * d < c * b
    · rw [decide_eq_true h, if_pos rfl, if_pos (by omega), decide_eq_true (by omega)]
    · rw [decide_eq_false h]; rfl
  by_cases c1 : b < 1
  · rw [if_pos c1, ht (Or.inl c1)]
  by_cases c2 : d < 1
  · rw [if_neg c1, if_pos c2, ht (Or.inr (Or.inl c2))]
  by_cases c3 : f < 1
  · rw [if_neg c1, if_neg c2, decide_eq_true c3, ht (Or.inr (Or.inr c3))]
  rw [if_neg c1, if_neg c2, decide_eq_false c3]
  simp only [hortatorlaw1_TickLess.j0]
  rw [less_f ha hb hc hd, less_f hc hd he hf, less_f ha hb he hf, less_f hc hd ha hb, less_f ha hb ha hb]
  simp only [Option.bind_some]
  have b0 : 0 < b := by omega
  have d0 : 0 < d := by omega
  have f0 : 0 < f := by omega
  have n0 : decide (0 < b ∧ 0 < b ∧ a * b < a * b) = false := decide_eq_false (by omega)
  rw [n0]
  -- the order
  have tr : a * d < c * b → c * f < e * d → a * f < e * b := by
    intro h1 h2
    have x1 : a * d * f < c * b * f := Int.mul_lt_mul_of_pos_right h1 f0
    have x2 : c * f * b < e * d * b := Int.mul_lt_mul_of_pos_right h2 b0
    have x3 : d * (a * f) < d * (e * b) := by
      have y1 : d * (a * f) = a * d * f := by grind
      have y2 : d * (e * b) = e * d * b := by grind
      have y3 : c * b * f = c * f * b := by grind
      omega
    exact Int.lt_of_mul_lt_mul_left x3 (by omega)
  have tr2 : a * d = c * b → a * f < e * b → c * f < e * d := by
    intro h1 h2
    have x2 : a * f * d < e * b * d := Int.mul_lt_mul_of_pos_right h2 d0
    have x3 : b * (c * f) < b * (e * d) := by
      have y1 : b * (c * f) = (c * b) * f := by grind
      have y2 : b * (e * d) = e * b * d := by grind
      have y3 : a * f * d = (a * d) * f := by grind
      rw [y1, ← h1, ← y3, y2]; exact x2
    exact Int.lt_of_mul_lt_mul_left x3 (by omega)
  have s1 : ∀ p q : Int, decide (0 < b ∧ 0 < d ∧ p < q) = decide (p < q) := by intro p q; congr 1; simp [b0, d0]
  have s2 : ∀ p q : Int, decide (0 < d ∧ 0 < f ∧ p < q) = decide (p < q) := by intro p q; congr 1; simp [f0, d0]
  have s3 : ∀ p q : Int, decide (0 < b ∧ 0 < f ∧ p < q) = decide (p < q) := by intro p q; congr 1; simp [b0, f0]
  have s4 : ∀ p q : Int, decide (0 < d ∧ 0 < b ∧ p < q) = decide (p < q) := by intro p q; congr 1; simp [b0, d0]
  rw [s1, s2, s3, s4]
  generalize a * d = x at *
  generalize c * b = y at *
  generalize c * f = z at *
  generalize e * d = u at *
  generalize a * f = v at *
  generalize e * b = w at *
  simp only [decide_eq_true_eq, Bool.false_eq_true, if_false]
  by_cases h1 : x < y
  · rw [if_pos h1, if_neg (by omega)]
    by_cases h2 : z < u
    · rw [if_pos h2, if_pos (tr h1 h2)]
    · rw [if_neg h2]
  · rw [if_neg h1]
    by_cases h2 : y < x
    · rw [if_pos h2]
    · rw [if_neg h2]
      by_cases h3 : v < w
      · rw [if_pos h3, decide_eq_true (tr2 (by omega) h3)]
      · rw [if_neg h3]
end Go.Proofs.Ytjkicgbmdloomaa.TickD
