/- Plain arithmetic of numbers of 128 bits: no program in sight. -/
import Derived.RowKit
import Derived.Laws.BitsLemmas
namespace Go.Proofs.Ytjkicgbmdloomaa.Math
open Go.RowKit

/-- A number of 64 bits, with its sign. -/
def Fits (n : Int) : Prop := -9223372036854775808 ≤ n ∧ n ≤ 9223372036854775807
/-- What 'narrow' tells. -/
def nar (v : Int) : Int × Bool := if -9223372036854775808 ≤ v ∧ v ≤ 9223372036854775807 then (v, true) else (0, false)
/-- 128 bits of two's complement. -/
def Rep (h l v : Int) : Prop := v = h * 18446744073709551616 + l ∧ 0 ≤ l ∧ l < 18446744073709551616 ∧ -9223372036854775808 ≤ h ∧ h ≤ 9223372036854775807

theorem uw (x : Int) : IntKind.u64.wrap x = x % 18446744073709551616 := by
  have : (2 : Int) ^ IntKind.u64.bits = 18446744073709551616 := by decide
  unfold IntKind.wrap
  simp [IntKind.signed, this]

theorem fits_of_wf {n : Int} (h : (Lit.int .i64 n).wf = true) : Fits n := by
  simp [Lit.wf, IntKind.min, IntKind.max, IntKind.signed, IntKind.bits] at h
  exact ⟨h.1, by omega⟩

theorem of_rep {a : Int} (h : Fits a) : Rep (a / 9223372036854775808) (a % 18446744073709551616) a := by
  obtain ⟨h1, h2⟩ := h
  refine ⟨?_, ?_, ?_, ?_, ?_⟩ <;> omega

theorem plus_rep {a b c d v u : Int} (h1 : Rep a b v) (h2 : Rep c d u) (hlo : -170141183460469231731687303715884105728 ≤ v + u) (hhi : v + u < 170141183460469231731687303715884105728) :
    Rep (wrap64 (wrap64 (a + c) + (b + d) / 18446744073709551616)) ((b + d) % 18446744073709551616) (v + u) := by
  obtain ⟨e1, p1, p2, p3, p4⟩ := h1
  obtain ⟨e2, q1, q2, q3, q4⟩ := h2
  unfold wrap64
  refine ⟨?_, ?_, ?_, ?_, ?_⟩ <;> omega

theorem narrow_rep {h l v : Int} (r : Rep h l v) : (if h = (wrap64 l) / 9223372036854775808 ∧ l = (wrap64 l) % 18446744073709551616 then (wrap64 l, true) else (0, false)) = nar v := by
  obtain ⟨e1, p1, p2, p3, p4⟩ := r
  unfold nar wrap64
  by_cases c : -9223372036854775808 ≤ v ∧ v ≤ 9223372036854775807
  · rw [if_pos c, if_pos (by omega)]
    congr 1
    omega
  · rw [if_neg c, if_neg (by omega)]

theorem less_rep {h l v h' l' v' : Int} (r : Rep h l v) (r' : Rep h' l' v') : (if h < h' then true else if h = h' then decide (l < l') else false) = decide (v < v') := by
  obtain ⟨e1, p1, p2, p3, p4⟩ := r
  obtain ⟨e2, q1, q2, q3, q4⟩ := r'
  by_cases c : h < h'
  · rw [if_pos c]; symm; simp; omega
  · rw [if_neg c]
    by_cases c' : h = h'
    · rw [if_pos c']; simp; omega
    · rw [if_neg c']; symm; simp; omega

/-- The four products of halves. -/
theorem halves (a b : Int) : a * b = (a / 4294967296) * (b / 4294967296) * 18446744073709551616 + ((a / 4294967296) * (b % 4294967296) + (a % 4294967296) * (b / 4294967296)) * 4294967296 + (a % 4294967296) * (b % 4294967296) := by
  have ha : a = (a / 4294967296) * 4294967296 + a % 4294967296 := by omega
  have hb : b = (b / 4294967296) * 4294967296 + b % 4294967296 := by omega
  generalize a / 4294967296 = a1 at *
  generalize a % 4294967296 = a0 at *
  generalize b / 4294967296 = b1 at *
  generalize b % 4294967296 = b0 at *
  subst ha; subst hb
  grind

theorem prod_bd {x y : Int} (hx : 0 ≤ x) (hx' : x ≤ 4294967295) (hy : 0 ≤ y) (hy' : y ≤ 4294967295) : 0 ≤ x * y ∧ x * y ≤ 18446744065119617025 := by
  refine ⟨Int.mul_nonneg hx hy, ?_⟩
  have := Int.mul_le_mul hx' hy' hy (by omega)
  omega

theorem mul_hi {a b : Int} (ha : 0 ≤ a) (ha' : a < 18446744073709551616) (hb : 0 ≤ b) (hb' : b < 18446744073709551616) :
    ((a / 4294967296) * (b / 4294967296) % 18446744073709551616 + (((a / 4294967296) * (b % 4294967296)) % 18446744073709551616 + ((a % 4294967296) * (b % 4294967296)) % 18446744073709551616 / 4294967296) % 18446744073709551616 / 4294967296) % 18446744073709551616 +
      (((((a / 4294967296) * (b % 4294967296)) % 18446744073709551616 + ((a % 4294967296) * (b % 4294967296)) % 18446744073709551616 / 4294967296) % 18446744073709551616) % 4294967296 + ((a % 4294967296) * (b / 4294967296)) % 18446744073709551616) % 18446744073709551616 / 4294967296 = a * b / 18446744073709551616
    ∧ 0 ≤ a * b / 18446744073709551616 ∧ a * b / 18446744073709551616 < 18446744073709551616 := by
  have h := halves a b
  obtain ⟨b1, b2⟩ := prod_bd (x := a / 4294967296) (y := b / 4294967296) (by omega) (by omega) (by omega) (by omega)
  obtain ⟨b3, b4⟩ := prod_bd (x := a / 4294967296) (y := b % 4294967296) (by omega) (by omega) (by omega) (by omega)
  obtain ⟨b5, b6⟩ := prod_bd (x := a % 4294967296) (y := b / 4294967296) (by omega) (by omega) (by omega) (by omega)
  obtain ⟨b7, b8⟩ := prod_bd (x := a % 4294967296) (y := b % 4294967296) (by omega) (by omega) (by omega) (by omega)
  generalize (a / 4294967296) * (b / 4294967296) = p11 at *
  generalize (a / 4294967296) * (b % 4294967296) = p10 at *
  generalize (a % 4294967296) * (b / 4294967296) = p01 at *
  generalize (a % 4294967296) * (b % 4294967296) = p00 at *
  generalize a * b = p at *
  refine ⟨?_, ?_, ?_⟩ <;> omega

theorem mul_fits {a b : Int} (ha : Fits a) (hb : Fits b) : -85070591730234615865843651857942052864 ≤ a * b ∧ a * b ≤ 85070591730234615865843651857942052864 := by
  obtain ⟨a1, a2⟩ := ha
  obtain ⟨b1, b2⟩ := hb
  have h : a.natAbs * b.natAbs ≤ 9223372036854775808 * 9223372036854775808 := Nat.mul_le_mul (by omega) (by omega)
  rw [← Int.natAbs_mul] at h
  omega

/-- The product of two signed numbers out of the unsigned one. -/
theorem times_rep {a b : Int} (ha : Fits a) (hb : Fits b) :
    Rep (if a < 0 then (if b < 0 then wrap64 (wrap64 (wrap64 ((a % 18446744073709551616) * (b % 18446744073709551616) / 18446744073709551616) - b) - a) else wrap64 (wrap64 ((a % 18446744073709551616) * (b % 18446744073709551616) / 18446744073709551616) - b))
      else (if b < 0 then wrap64 (wrap64 ((a % 18446744073709551616) * (b % 18446744073709551616) / 18446744073709551616) - a) else wrap64 ((a % 18446744073709551616) * (b % 18446744073709551616) / 18446744073709551616)))
      ((a % 18446744073709551616) * (b % 18446744073709551616) % 18446744073709551616) (a * b) := by
  obtain ⟨hl, hh⟩ := mul_fits ha hb
  obtain ⟨a1, a2⟩ := ha
  obtain ⟨b1, b2⟩ := hb
  by_cases ca : a < 0
  · rw [if_pos ca]
    have ea : a % 18446744073709551616 = a + 18446744073709551616 := by omega
    by_cases cb : b < 0
    · rw [if_pos cb]
      have eb : b % 18446744073709551616 = b + 18446744073709551616 := by omega
      have e : (a + 18446744073709551616) * (b + 18446744073709551616) = a * b + 18446744073709551616 * (a + b) + 18446744073709551616 * 18446744073709551616 := by grind
      rw [ea, eb, e]
      generalize a * b = p at *
      unfold wrap64
      refine ⟨?_, ?_, ?_, ?_, ?_⟩ <;> omega
    · rw [if_neg cb]
      have eb : b % 18446744073709551616 = b := by omega
      have e : (a + 18446744073709551616) * b = a * b + 18446744073709551616 * b := by grind
      rw [ea, eb, e]
      generalize a * b = p at *
      unfold wrap64
      refine ⟨?_, ?_, ?_, ?_, ?_⟩ <;> omega
  · rw [if_neg ca]
    have ea : a % 18446744073709551616 = a := by omega
    by_cases cb : b < 0
    · rw [if_pos cb]
      have eb : b % 18446744073709551616 = b + 18446744073709551616 := by omega
      have e : a * (b + 18446744073709551616) = a * b + 18446744073709551616 * a := by grind
      rw [ea, eb, e]
      generalize a * b = p at *
      unfold wrap64
      refine ⟨?_, ?_, ?_, ?_, ?_⟩ <;> omega
    · rw [if_neg cb]
      have eb : b % 18446744073709551616 = b := by omega
      rw [ea, eb]
      generalize a * b = p at *
      unfold wrap64
      refine ⟨?_, ?_, ?_, ?_, ?_⟩ <;> omega

/-- 'Down', 'Up' as plain quotients. -/
def dnq (a b : Int) : Int := if b ≤ 0 then 0 else a / b
def upq (a b : Int) : Int := if b ≤ 0 then 0 else -((-a) / b)

theorem ediv_bd {a b : Int} (hb : 0 < b) (m : Int) (hm : 0 ≤ m) (h1 : -m ≤ a) : -m ≤ a / b := by
  by_cases h : 0 ≤ a
  · have := Int.ediv_nonneg h (by omega : 0 ≤ b); omega
  · refine (Int.le_ediv_iff_mul_le hb (a := -m) (b := a)).2 ?_
    have := Int.mul_le_mul_of_nonneg_left (show 1 ≤ b by omega) hm
    rw [Int.neg_mul]; omega
theorem ediv_bd' {a b : Int} (hb : 0 < b) (m : Int) (hm : 0 ≤ m) (h1 : a ≤ m) : a / b ≤ m := by
  by_cases h : 0 ≤ a
  · have := Int.ediv_le_self b h; omega
  · have := Int.ediv_neg_of_neg_of_pos (by omega : a < 0) hb; omega
theorem dnq_fits {a b : Int} (ha : Fits a) : Fits (dnq a b) := by
  obtain ⟨h1, h2⟩ := ha
  unfold dnq
  split
  · exact ⟨by omega, by omega⟩
  · exact ⟨ediv_bd (by omega) 9223372036854775808 (by omega) (by omega), ediv_bd' (by omega) 9223372036854775807 (by omega) (by omega)⟩
theorem upq_fits {a b : Int} (ha : Fits a) : Fits (upq a b) := by
  obtain ⟨h1, h2⟩ := ha
  unfold upq
  split
  · exact ⟨by omega, by omega⟩
  · have := ediv_bd (a := -a) (b := b) (by omega) 9223372036854775807 (by omega) (by omega)
    have := ediv_bd' (a := -a) (b := b) (by omega) 9223372036854775808 (by omega) (by omega)
    exact ⟨by omega, by omega⟩
end Go.Proofs.Ytjkicgbmdloomaa.Math
