/- What the reference of layer 1 tells, in plain numbers. -/
import Derived.Test.YtjkicgbmdloomaaPTickx6
import Derived.Test.YtjkicgbmdloomaaPTickx7
import Derived.Test.YtjkicgbmdloomaaMath
namespace Go.Proofs.Ytjkicgbmdloomaa.TickB
open Go.RowKit Go.Proofs.Ytjkicgbmdloomaa.PTick Go.Proofs.Ytjkicgbmdloomaa.Math Go.Proofs.YtjkicgbmdloomaaW.PrintWords Go.Proofs.YtjkicgbmdloomaaW.PrintLast

theorem tdivw (z : Int) : Int.tdiv (z % 18446744073709551616) 4294967296 = z % 18446744073709551616 / 4294967296 := Int.tdiv_eq_ediv_of_nonneg (by omega)
theorem tmodw (z : Int) : Int.tmod (z % 18446744073709551616) 4294967296 = z % 18446744073709551616 % 4294967296 := Int.tmod_eq_emod_of_nonneg (by omega)

theorem hi_eq {x y : Int} (hx : 0 ≤ x) (hx' : x < 18446744073709551616) (hy : 0 ≤ y) (hy' : y < 18446744073709551616) :
    (IntKind.u64.wrap ((IntKind.u64.wrap ((IntKind.u64.wrap ((IntKind.u64.wrap (Int.tdiv x 4294967296)) * (IntKind.u64.wrap (Int.tdiv y 4294967296)))) + (IntKind.u64.wrap (Int.tdiv (IntKind.u64.wrap ((IntKind.u64.wrap ((IntKind.u64.wrap (Int.tdiv x 4294967296)) * (Int.tmod y 4294967296))) + (IntKind.u64.wrap (Int.tdiv (IntKind.u64.wrap ((Int.tmod x 4294967296) * (Int.tmod y 4294967296))) 4294967296)))) 4294967296)))) + (IntKind.u64.wrap (Int.tdiv (IntKind.u64.wrap ((IntKind.u64.wrap ((Int.tmod x 4294967296) * (IntKind.u64.wrap (Int.tdiv y 4294967296)))) + (Int.tmod (IntKind.u64.wrap ((IntKind.u64.wrap ((IntKind.u64.wrap (Int.tdiv x 4294967296)) * (Int.tmod y 4294967296))) + (IntKind.u64.wrap (Int.tdiv (IntKind.u64.wrap ((Int.tmod x 4294967296) * (Int.tmod y 4294967296))) 4294967296)))) 4294967296))) 4294967296)))) = x * y / 18446744073709551616 := by
  simp only [uw, tdivw, tmodw, Int.tdiv_eq_ediv_of_nonneg hx, Int.tdiv_eq_ediv_of_nonneg hy, Int.tmod_eq_emod_of_nonneg hx, Int.tmod_eq_emod_of_nonneg hy]
  have e1 : x / 4294967296 % 18446744073709551616 = x / 4294967296 := by omega
  have e2 : y / 4294967296 % 18446744073709551616 = y / 4294967296 := by omega
  simp only [e1, e2]
  have h := halves x y
  obtain ⟨b1, b2⟩ := prod_bd (x := x / 4294967296) (y := y / 4294967296) (by omega) (by omega) (by omega) (by omega)
  obtain ⟨b3, b4⟩ := prod_bd (x := x / 4294967296) (y := y % 4294967296) (by omega) (by omega) (by omega) (by omega)
  obtain ⟨b5, b6⟩ := prod_bd (x := x % 4294967296) (y := y / 4294967296) (by omega) (by omega) (by omega) (by omega)
  obtain ⟨b7, b8⟩ := prod_bd (x := x % 4294967296) (y := y % 4294967296) (by omega) (by omega) (by omega) (by omega)
  generalize (x / 4294967296) * (y / 4294967296) = p11 at *
  generalize (x / 4294967296) * (y % 4294967296) = p10 at *
  generalize (x % 4294967296) * (y / 4294967296) = p01 at *
  generalize (x % 4294967296) * (y % 4294967296) = p00 at *
  generalize x * y = p at *
  clear hx hx' hy hy' e1 e2
  omega

theorem lo_eq {x y : Int} (hx : 0 ≤ x) (hx' : x < 18446744073709551616) (hy : 0 ≤ y) (hy' : y < 18446744073709551616) :
    (IntKind.u64.wrap ((IntKind.u64.wrap ((Int.tmod (IntKind.u64.wrap ((IntKind.u64.wrap ((Int.tmod x 4294967296) * (IntKind.u64.wrap (Int.tdiv y 4294967296)))) + (Int.tmod (IntKind.u64.wrap ((IntKind.u64.wrap ((IntKind.u64.wrap (Int.tdiv x 4294967296)) * (Int.tmod y 4294967296))) + (IntKind.u64.wrap (Int.tdiv (IntKind.u64.wrap ((Int.tmod x 4294967296) * (Int.tmod y 4294967296))) 4294967296)))) 4294967296))) 4294967296) * 4294967296)) + (Int.tmod (IntKind.u64.wrap ((Int.tmod x 4294967296) * (Int.tmod y 4294967296))) 4294967296))) = x * y % 18446744073709551616 := by
  simp only [uw, tdivw, tmodw, Int.tdiv_eq_ediv_of_nonneg hx, Int.tdiv_eq_ediv_of_nonneg hy, Int.tmod_eq_emod_of_nonneg hx, Int.tmod_eq_emod_of_nonneg hy]
  have e1 : x / 4294967296 % 18446744073709551616 = x / 4294967296 := by omega
  have e2 : y / 4294967296 % 18446744073709551616 = y / 4294967296 := by omega
  simp only [e1, e2]
  have h := halves x y
  obtain ⟨b3, b4⟩ := prod_bd (x := x / 4294967296) (y := y % 4294967296) (by omega) (by omega) (by omega) (by omega)
  obtain ⟨b5, b6⟩ := prod_bd (x := x % 4294967296) (y := y / 4294967296) (by omega) (by omega) (by omega) (by omega)
  obtain ⟨b7, b8⟩ := prod_bd (x := x % 4294967296) (y := y % 4294967296) (by omega) (by omega) (by omega) (by omega)
  generalize (x / 4294967296) * (y / 4294967296) = p11 at *
  generalize (x / 4294967296) * (y % 4294967296) = p10 at *
  generalize (x % 4294967296) * (y / 4294967296) = p01 at *
  generalize (x % 4294967296) * (y % 4294967296) = p00 at *
  generalize x * y = p at *
  clear hx hx' hy hy' e1 e2
  omega

/-- The size of a number. -/
def sz (v : Int) : Int := if v < 0 then -v else v
theorem sz_mul (a b : Int) : sz a * sz b = sz (a * b) := by
  unfold sz
  by_cases ha : a < 0
  · by_cases hb : b < 0
    · have := Int.mul_pos_of_neg_of_neg ha hb
      rw [if_pos ha, if_pos hb, if_neg (by omega)]; grind
    · rw [if_pos ha, if_neg hb]
      by_cases h0 : b = 0
      · subst h0; simp
      · have := Int.mul_neg_of_neg_of_pos ha (by omega : 0 < b)
        rw [if_pos this]; grind
  · by_cases hb : b < 0
    · rw [if_neg ha, if_pos hb]
      by_cases h0 : a = 0
      · subst h0; simp
      · have := Int.mul_neg_of_pos_of_neg (by omega : 0 < a) hb
        rw [if_pos this]; grind
    · have := Int.mul_nonneg (by omega : 0 ≤ a) (by omega : 0 ≤ b)
      rw [if_neg ha, if_neg hb, if_neg (by omega)]
/-- A number of 128 bits and a sign, as the reference has it. -/
def S (v : Int) : Bool × Int × Int := (decide (v < 0), sz v / 18446744073709551616, sz v % 18446744073709551616)

theorem size_f {a : Int} (h : Fits a) : hortatorref1_size.f a = some (sz a) := by
  obtain ⟨h1, h2⟩ := h
  unfold hortatorref1_size.f sz
  simp only [uw]
  split
  · congr 1; unfold wrap64; omega
  · congr 1; omega

theorem of_f {a : Int} (h : Fits a) : hortatorref1_of.f a = some (S a) := by
  unfold hortatorref1_of.f S
  rw [size_f h]
  obtain ⟨h1, h2⟩ := h
  have : 0 ≤ sz a ∧ sz a < 18446744073709551616 := by unfold sz; split <;> omega
  simp only [Option.bind_some]
  congr 3 <;> omega

theorem sg {a b : Int} (h0 : a * b ≠ 0) : (decide (a < 0) != decide (b < 0)) = decide (a * b < 0) := by
  have a0 : a ≠ 0 := fun h => h0 (by rw [h, Int.zero_mul])
  have b0 : b ≠ 0 := fun h => h0 (by rw [h, Int.mul_zero])
  by_cases ha : a < 0 <;> by_cases hb : b < 0
  · have := Int.mul_pos_of_neg_of_neg ha hb
    simp [ha, hb]; omega
  · have := Int.mul_neg_of_neg_of_pos ha (by omega : 0 < b)
    simp [ha, hb, this]
  · have := Int.mul_neg_of_pos_of_neg (by omega : 0 < a) hb
    simp [ha, hb, this]
  · have := Int.mul_pos (by omega : 0 < a) (by omega : 0 < b)
    simp [ha, hb]; omega

theorem mul_f {a b : Int} (ha : Fits a) (hb : Fits b) : hortatorref1_mul.f a b = some (S (a * b)) := by
  unfold hortatorref1_mul.f
  rw [size_f ha, size_f hb]
  simp only [Option.bind_some]
  have x1 : 0 ≤ sz a ∧ sz a < 18446744073709551616 := by obtain ⟨h1, h2⟩ := ha; unfold sz; split <;> omega
  have y1 : 0 ≤ sz b ∧ sz b < 18446744073709551616 := by obtain ⟨h1, h2⟩ := hb; unfold sz; split <;> omega
  rw [hi_eq x1.1 x1.2 y1.1 y1.2, lo_eq x1.1 x1.2 y1.1 y1.2, sz_mul]
  unfold S
  by_cases h0 : a * b = 0
  · rw [h0]; rfl
  · rw [sg h0]
    have : 0 < sz (a * b) := by unfold sz; split <;> omega
    by_cases c : sz (a * b) / 18446744073709551616 = 0
    · rw [if_pos c, if_neg (by omega)]
    · rw [if_neg c]

theorem back_f (k : Nat) {v : Int} : hortatorref1_back.f (k + 1) (S v).1 (S v).2.1 (S v).2.2 = some (nar v) := by
  unfold hortatorref1_back.f hortatorref1_back.j0 nar S
  simp only [uw, decide_eq_true_eq]
  by_cases hn : v < 0
  · have e : sz v = -v := by unfold sz; rw [if_pos hn]
    rw [e]
    by_cases c1 : -v / 18446744073709551616 > 0
    · rw [if_pos c1, if_pos trivial, if_neg (by omega)]
    · rw [if_neg c1]
      by_cases c2 : -v % 18446744073709551616 > 9223372036854775808
      · rw [if_pos c2, if_pos trivial, if_neg (by omega)]
      · rw [if_neg c2, if_pos hn, if_neg (by simp), if_pos hn, if_pos (by omega)]
        congr 2
        unfold wrap64
        omega
  · have e : sz v = v := by unfold sz; rw [if_neg hn]
    rw [e]
    by_cases c1 : v / 18446744073709551616 > 0
    · rw [if_pos c1, if_pos trivial, if_neg (by omega)]
    · rw [if_neg c1]
      by_cases c2 : v % 18446744073709551616 > 9223372036854775808
      · rw [if_pos c2, if_pos trivial, if_neg (by omega)]
      · rw [if_neg c2, if_neg hn]
        by_cases c3 : v % 18446744073709551616 = 9223372036854775808
        · rw [if_pos (by simp [c3]), if_neg (by omega)]
        · have : (v % 18446744073709551616 == 9223372036854775808) = false := beq_eq_false_iff_ne.2 c3
          rw [this, if_neg (by simp), if_neg hn, if_pos (by omega)]
          congr 2
          unfold wrap64
          omega

theorem above_f (n m : Bool) {v u : Int} :
    hortatorref1_above.f n (v / 18446744073709551616) (v % 18446744073709551616) m (u / 18446744073709551616) (u % 18446744073709551616) = some (decide (v > u)) := by
  unfold hortatorref1_above.f
  by_cases c1 : v / 18446744073709551616 > u / 18446744073709551616
  · rw [if_pos c1]; congr 1; symm; simp; omega
  · rw [if_neg c1]
    by_cases c2 : v / 18446744073709551616 = u / 18446744073709551616
    · rw [if_pos c2]; congr 1; simp; omega
    · rw [if_neg c2]; congr 1; symm; simp; omega

/-- The difference of sizes: the greater one first. -/
theorem sub_j (k : Nat) (n m : Bool) {x y : Int} (hy : 0 ≤ y) (hxy : y ≤ x) (hx : x < 340282366920938463463374607431768211456) :
    hortatorref1_add.j0 (k + 1) n (x / 18446744073709551616) (x % 18446744073709551616) m (y / 18446744073709551616) (y % 18446744073709551616) =
      some (if x = y then false else n, (x - y) / 18446744073709551616, (x - y) % 18446744073709551616) := by
  unfold hortatorref1_add.j0
  simp only [uw]
  have e2 : (x % 18446744073709551616 - y % 18446744073709551616) % 18446744073709551616 = (x - y) % 18446744073709551616 := by omega
  rw [e2]
  by_cases c : x % 18446744073709551616 < y % 18446744073709551616
  · have e1 : ((x / 18446744073709551616 - y / 18446744073709551616) % 18446744073709551616 - 1) % 18446744073709551616 = (x - y) / 18446744073709551616 := by omega
    rw [if_pos c, e1]
    by_cases c1 : (x - y) / 18446744073709551616 = 0
    · rw [if_pos c1]
      by_cases c2 : (x - y) % 18446744073709551616 = 0
      · rw [if_pos c2, if_pos (by omega)]
      · rw [if_neg c2, if_neg (by omega)]
    · rw [if_neg c1, if_neg (by omega)]
  · have e1 : (x / 18446744073709551616 - y / 18446744073709551616) % 18446744073709551616 = (x - y) / 18446744073709551616 := by omega
    rw [if_neg c, e1]
    by_cases c1 : (x - y) / 18446744073709551616 = 0
    · rw [if_pos c1]
      by_cases c2 : (x - y) % 18446744073709551616 = 0
      · rw [if_pos c2, if_pos (by omega)]
      · rw [if_neg c2, if_neg (by omega)]
    · rw [if_neg c1, if_neg (by omega)]

theorem add_f (k : Nat) {v u : Int} (hv : sz v < 85070591730234615865843651857942052864) (hu : sz u < 85070591730234615865843651857942052864) :
    hortatorref1_add.f (k + 1) (S v).1 (S v).2.1 (S v).2.2 (S u).1 (S u).2.1 (S u).2.2 = some (S (v + u)) := by
  unfold hortatorref1_add.f S
  have v0 : 0 ≤ sz v := by unfold sz; split <;> omega
  have u0 : 0 ≤ sz u := by unfold sz; split <;> omega
  simp only [uw]
  by_cases c : decide (v < 0) = decide (u < 0)
  · rw [if_pos (by rw [c]; simp)]
    have es : sz (v + u) = sz v + sz u := by
      have : v < 0 ↔ u < 0 := by simpa using c
      unfold sz
      by_cases h : v < 0
      · rw [if_pos h, if_pos (this.1 h), if_pos (by omega)]; omega
      · rw [if_neg h, if_neg (fun q => h (this.2 q)), if_neg (by omega)]
    have ed : decide (v + u < 0) = decide (v < 0) := by
      have : v < 0 ↔ u < 0 := by simpa using c
      by_cases h : v < 0
      · have := this.1 h
        simp [h]; omega
      · have : ¬ u < 0 := fun q => h (this.2 q)
        simp [h]; omega
    rw [es, ed]
    generalize sz v = x at *
    generalize sz u = y at *
    by_cases c1 : (x % 18446744073709551616 + y % 18446744073709551616) % 18446744073709551616 < x % 18446744073709551616
    · rw [if_pos c1]; congr 3 <;> omega
    · rw [if_neg c1]; congr 3 <;> omega
  · rw [if_neg (by simpa using c)]
    rw [above_f _ _]
    simp only [Option.bind_some, decide_eq_true_eq]
    have c' : ¬ (v < 0 ↔ u < 0) := by simpa using c
    by_cases g : sz u > sz v
    · rw [if_pos g, sub_j k _ _ v0 (by omega) (by omega), if_neg (by omega)]
      have es : sz (v + u) = sz u - sz v := by
        unfold sz at *
        by_cases h : v < 0 <;> by_cases h' : u < 0 <;> simp only [h, h', if_true, if_false] at * <;> first | exact absurd trivial c' | (split <;> omega)
      have ed : decide (v + u < 0) = decide (u < 0) := by
        unfold sz at *
        by_cases h : v < 0 <;> by_cases h' : u < 0 <;> simp only [h, h', if_true, if_false] at * <;> first | exact absurd trivial c' | (simp; omega)
      rw [es, ed]
    · rw [if_neg g, sub_j k _ _ u0 (by omega) (by omega)]
      have es : sz (v + u) = sz v - sz u := by
        unfold sz at *
        by_cases h : v < 0 <;> by_cases h' : u < 0 <;> simp only [h, h', if_true, if_false] at * <;> first | exact absurd trivial c' | (split <;> omega)
      have ed : decide (v + u < 0) = if sz v = sz u then false else decide (v < 0) := by
        unfold sz at *
        by_cases h : v < 0 <;> by_cases h' : u < 0 <;> simp only [h, h', if_true, if_false] at * <;> first | exact absurd trivial c' | (split <;> (simp; omega))
      rw [es, ed]

theorem sz_bd {a : Int} (h : Fits a) : sz a ≤ 9223372036854775808 := by
  obtain ⟨h1, h2⟩ := h
  unfold sz; split <;> omega

theorem Add_f (k : Nat) {a b : Int} (ha : Fits a) (hb : Fits b) : hortatorref1_Add.f (k + 1) a b = some (nar (a + b)) := by
  have s1 := sz_bd ha
  have s2 := sz_bd hb
  unfold hortatorref1_Add.f
  rw [of_f ha]; simp only [Option.bind_some]
  rw [of_f hb]; simp only [Option.bind_some]
  rw [add_f k (by omega) (by omega)]; simp only [Option.bind_some]
  rw [back_f k]; rfl

theorem Mul_f (k : Nat) {a b : Int} (ha : Fits a) (hb : Fits b) : hortatorref1_Mul.f (k + 1) a b = some (nar (a * b)) := by
  unfold hortatorref1_Mul.f
  rw [mul_f ha hb]; simp only [Option.bind_some]
  rw [back_f k]; rfl

theorem Less_f (k : Nat) {a b c d : Int} (ha : Fits a) (hb : Fits b) (hc : Fits c) (hd : Fits d) : hortatorref1_Less.f (k + 1) a b c d = some (decide (0 < b ∧ 0 < d ∧ a * d < c * b)) := by
  unfold hortatorref1_Less.f
  simp only [hortatorref1_Less.j0, decide_eq_true_eq]
  by_cases h1 : b ≤ 0
  · rw [if_pos h1, if_pos trivial]; congr 1; symm; simp only [decide_eq_false_iff_not]; exact fun h => by omega
  · rw [if_neg h1]
    by_cases h2 : d ≤ 0
    · rw [if_pos h2]; congr 1; symm; simp only [decide_eq_false_iff_not]; exact fun h => by omega
    · rw [if_neg h2, mul_f ha hd]; simp only [Option.bind_some]
      rw [mul_f hc hb]; simp only [Option.bind_some]
      have e : decide (0 < b ∧ 0 < d ∧ a * d < c * b) = decide (a * d < c * b) := by
        congr 1; simp only [eq_iff_iff]; exact ⟨fun h => h.2.2, fun h => ⟨by omega, by omega, h⟩⟩
      rw [e]
      have p0 : 0 ≤ sz (a * d) := by unfold sz; split <;> omega
      have q0 : 0 ≤ sz (c * b) := by unfold sz; split <;> omega
      unfold S
      simp only []
      rw [above_f _ _, above_f _ _]
      simp only [Option.bind_some]
      generalize a * d = x at *
      generalize c * b = y at *
      unfold sz
      by_cases hx : x < 0 <;> by_cases hy : y < 0 <;> simp [hx, hy] <;> omega

theorem Up_eq (a b : Int) : hortatorref1_Up.f a b = tick_Up.f a b := rfl
theorem Down_eq (a b : Int) : hortatorref1_Down.f a b = tick_Down.f a b := rfl
end Go.Proofs.Ytjkicgbmdloomaa.TickB
