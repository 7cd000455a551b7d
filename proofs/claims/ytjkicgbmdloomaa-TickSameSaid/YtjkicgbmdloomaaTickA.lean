/- What the functions of package tick tell, in plain numbers. -/
import Derived.Test.YtjkicgbmdloomaaPTickx3
import Derived.Test.YtjkicgbmdloomaaMath
namespace Go.Proofs.Ytjkicgbmdloomaa.TickA
open Go.RowKit Go.Proofs.Ytjkicgbmdloomaa.PTick Go.Proofs.Ytjkicgbmdloomaa.Math Go.Proofs.YtjkicgbmdloomaaW.PrintWords Go.Proofs.YtjkicgbmdloomaaW.PrintLast

theorem le_of_mono {α : Type} {g : Nat → Option α} (hm : ∀ k, LeO (g k) (g (k + 1))) {r : α} {k : Nat} (h : g k = some r) : ∀ d, g (k + d) = some r
  | 0 => h
  | d + 1 => hm (k + d) r (le_of_mono hm h d)

theorem begun_at (k : Nat) (hk : 10 ≤ k) : hortatorlaw1_begun.f k = some true := by
  have h : hortatorlaw1_begun.f 10 = some true := by decide +kernel
  have := le_of_mono (g := hortatorlaw1_begun.f) (fun k => hortatorlaw1_begun.mono k) h (k - 10)
  rwa [show 10 + (k - 10) = k from by omega] at this

theorem of_f {a : Int} (h : Fits a) : ∃ p q, tick_of.f a = some (p, q) ∧ Rep p q a := by
  refine ⟨_, _, rfl, ?_⟩
  rw [uw]
  exact of_rep h

theorem fits_wrap (l : Int) : Fits (wrap64 l) := by
  unfold Fits wrap64
  omega

theorem plus_f {a b c d v u : Int} (h1 : Rep a b v) (h2 : Rep c d u) (hlo : -170141183460469231731687303715884105728 ≤ v + u) (hhi : v + u < 170141183460469231731687303715884105728) :
    ∃ p q, tick_wide_plus.f a b c d = some (p, q) ∧ Rep p q (v + u) := by
  refine ⟨_, _, ?_, plus_rep h1 h2 hlo hhi⟩
  unfold tick_wide_plus.f
  rw [if_pos ⟨h1.2.1, h1.2.2.1, h2.2.1, h2.2.2.1⟩]
  rfl

theorem narrow_f {h l v : Int} (r : Rep h l v) : tick_wide_narrow.f h l = some (nar v) := by
  rw [← narrow_rep r]
  unfold tick_wide_narrow.f tick_of.f
  simp only [Option.bind_some]
  rw [uw]
  by_cases c1 : h = wrap64 l / 9223372036854775808
  · by_cases c2 : l = wrap64 l % 18446744073709551616
    · rw [if_neg, if_pos ⟨c1, c2⟩]
      rw [← c1, ← c2]
      simp
    · rw [if_pos, if_neg (fun h => c2 h.2)]
      simp only [Bool.or_eq_true, Bool.not_eq_true', beq_eq_false_iff_ne]
      exact Or.inr c2
  · rw [if_pos, if_neg (fun h => c1 h.1)]
    simp only [Bool.or_eq_true, Bool.not_eq_true', beq_eq_false_iff_ne]
    exact Or.inl c1

theorem add_f {a b : Int} (ha : Fits a) (hb : Fits b) : tick_Add.f a b = some (nar (a + b)) := by
  obtain ⟨p, q, e1, r1⟩ := of_f ha
  obtain ⟨p', q', e2, r2⟩ := of_f hb
  obtain ⟨a1, a2⟩ := ha
  obtain ⟨b1, b2⟩ := hb
  obtain ⟨p3, q3, e3, r3⟩ := plus_f r1 r2 (by omega) (by omega)
  unfold tick_Add.f
  rw [e1]; simp only [Option.bind_some]
  rw [e2]; simp only [Option.bind_some]
  rw [e3]; simp only [Option.bind_some]
  rw [narrow_f r3]; rfl

theorem wraps_u64 (n : Int) (h₀ : 0 ≤ n) (h₁ : n < 2 ^ 64) : IntKind.u64.wrap n = n := by rw [uw]; omega
theorem and32 (x : Int) (h₀ : 0 ≤ x) (h₁ : x < 18446744073709551616) : Go.bits .and .u64 x 4294967295 = x % 4294967296 :=
  bits_mask .u64 64 (by decide) wraps_u64 32 (by decide) x h₀ (by simpa using h₁)

theorem mul64_f {a b : Int} (ha : 0 ≤ a) (ha' : a < 18446744073709551616) (hb : 0 ≤ b) (hb' : b < 18446744073709551616) :
    bits_Mul64.f a b = some (a * b / 18446744073709551616, a * b % 18446744073709551616) := by
  unfold bits_Mul64.f
  simp only [uw]
  rw [and32 a ha ha', and32 b hb hb', and32 _ (by omega) (by omega)]
  obtain ⟨e, e1, e2⟩ := mul_hi ha ha' hb hb'
  congr 2
  rw [← e] at e1 e2 ⊢
  omega

theorem times_f {a b : Int} (ha : Fits a) (hb : Fits b) : ∃ p q, tick_times.f a b = some (p, q) ∧ Rep p q (a * b) := by
  refine ⟨_, _, ?_, times_rep ha hb⟩
  unfold tick_times.f
  rw [uw, uw, mul64_f (by omega) (by omega) (by omega) (by omega)]
  simp only [Option.bind_some]
  by_cases ca : a < 0
  · rw [if_pos ca, if_pos ca]
    by_cases cb : b < 0
    · rw [if_pos cb, if_pos cb]
    · rw [if_neg cb, if_neg cb]
  · rw [if_neg ca, if_neg ca]
    by_cases cb : b < 0
    · rw [if_pos cb, if_pos cb]
    · rw [if_neg cb, if_neg cb]

theorem mul_f {a b : Int} (ha : Fits a) (hb : Fits b) : tick_Mul.f a b = some (nar (a * b)) := by
  obtain ⟨p, q, e, r⟩ := times_f ha hb
  unfold tick_Mul.f
  rw [e]; simp only [Option.bind_some]
  rw [narrow_f r]; rfl

theorem less_f {a b c d : Int} (ha : Fits a) (hb : Fits b) (hc : Fits c) (hd : Fits d) : tick_Less.f a b c d = some (decide (0 < b ∧ 0 < d ∧ a * d < c * b)) := by
  unfold tick_Less.f
  by_cases h1 : b > 0
  · rw [if_pos h1]
    by_cases h2 : d > 0
    · rw [if_pos h2]
      obtain ⟨p, q, e, r⟩ := times_f ha hd
      obtain ⟨p', q', e', r'⟩ := times_f hc hb
      rw [e]; simp only [Option.bind_some]
      rw [e']; simp only [Option.bind_some]
      have hl := less_rep r r'
      have : tick_wide_less.f p q p' q' = some (decide (a * d < c * b)) := by
        unfold tick_wide_less.f
        rw [← hl]
        by_cases c1 : p < p'
        · rw [if_pos c1, if_pos c1]
        · rw [if_neg c1, if_neg c1]
          by_cases c2 : p = p'
          · rw [if_pos c2, if_pos c2]
          · rw [if_neg c2, if_neg c2]
      rw [this]
      simp only [Option.bind_some]
      congr 2
      simp only [eq_iff_iff]
      exact ⟨fun h => ⟨h1, h2, h⟩, fun h => h.2.2⟩
    · rw [if_neg h2]
      congr 1
      simp only [Bool.false_eq, decide_eq_false_iff_not]
      exact fun h => h2 h.2.1
  · rw [if_neg h1]
    congr 1
    simp only [Bool.false_eq, decide_eq_false_iff_not]
    exact fun h => h1 h.1

theorem tdiv_down {a b : Int} (hb : 0 < b) : (if Int.tmod a b < 0 then Int.tdiv a b - 1 else Int.tdiv a b) = a / b := by
  have h1 := Int.tmod_add_mul_tdiv a b
  have h2 := Int.emod_add_mul_ediv a b
  have h3 := Int.emod_nonneg a (Int.ne_of_gt hb)
  have h4 := Int.emod_lt_of_pos a hb
  have h5 : -b < Int.tmod a b := by
    have := Int.tmod_lt_of_pos (-a) hb
    rw [Int.neg_tmod] at this
    omega
  have h6 := Int.tmod_lt_of_pos a hb
  generalize a % b = r at *
  generalize a / b = q at *
  generalize Int.tmod a b = r' at *
  generalize Int.tdiv a b = q' at *
  have e : b * (q' - q) = r - r' := by grind
  split
  · have l1 : q' - q < 2 := by
      apply Int.lt_of_mul_lt_mul_left (a := b) _ (by omega)
      grind
    have l2 : 0 < q' - q := by
      apply Int.lt_of_mul_lt_mul_left (a := b) _ (by omega)
      grind
    omega
  · have l1 : q' - q < 1 := by
      apply Int.lt_of_mul_lt_mul_left (a := b) _ (by omega)
      grind
    have l2 : -1 < q' - q := by
      apply Int.lt_of_mul_lt_mul_left (a := b) _ (by omega)
      grind
    omega

theorem tdiv_up {a b : Int} (hb : 0 < b) : (if Int.tmod a b > 0 then Int.tdiv a b + 1 else Int.tdiv a b) = -((-a) / b) := by
  rw [← tdiv_down hb, Int.neg_tmod, Int.neg_tdiv]
  by_cases h : Int.tmod a b > 0
  · rw [if_pos h, if_pos (by omega)]; omega
  · rw [if_neg h, if_neg (by omega)]; omega

theorem down_f {a b : Int} (ha : Fits a) : tick_Down.f a b = some (dnq a b) := by
  have f := dnq_fits (b := b) ha
  unfold tick_Down.f
  unfold dnq at f ⊢
  by_cases h : b ≤ 0
  · rw [if_pos h, if_pos h]
  · have hb : 0 < b := by omega
    rw [if_neg h] at f
    rw [if_neg h, if_neg h, if_neg (by omega)]
    obtain ⟨f1, f2⟩ := f
    rw [← tdiv_down (a := a) hb] at f1 f2 ⊢
    by_cases c : Int.tmod a b < 0
    · rw [if_pos c] at f1 f2
      rw [if_pos c, if_pos c]
      congr 1
      unfold wrap64; omega
    · rw [if_neg c] at f1 f2
      rw [if_neg c, if_neg c]
      congr 1
      unfold wrap64; omega

theorem up_f {a b : Int} (ha : Fits a) : tick_Up.f a b = some (upq a b) := by
  have f := upq_fits (b := b) ha
  unfold tick_Up.f
  unfold upq at f ⊢
  by_cases h : b ≤ 0
  · rw [if_pos h, if_pos h]
  · have hb : 0 < b := by omega
    rw [if_neg h] at f
    rw [if_neg h, if_neg h, if_neg (by omega)]
    obtain ⟨f1, f2⟩ := f
    rw [← tdiv_up (a := a) hb] at f1 f2 ⊢
    by_cases c : Int.tmod a b > 0
    · rw [if_pos c] at f1 f2
      rw [if_pos c, if_pos c]
      congr 1
      unfold wrap64; omega
    · rw [if_neg c] at f1 f2
      rw [if_neg c, if_neg c]
      congr 1
      unfold wrap64; omega
end Go.Proofs.Ytjkicgbmdloomaa.TickA
