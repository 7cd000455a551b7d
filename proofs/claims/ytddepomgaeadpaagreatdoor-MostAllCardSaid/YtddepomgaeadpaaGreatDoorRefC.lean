/- hortatorref7: with, Most, Tight: what each computes. -/
import Derived.Test.YtddepomgaeadpaaGreatDoorRefB
import Derived.Test.YtddepomgaeadpaaGreatDoorPAllx10
namespace Go.Proofs.YtddepomgaeadpaaGreatDoor.LoadMath
open Go.RowKit Go.Proofs.YtddepomgaeadpaaGreatDoorW.PrintWords Go.Proofs.YtddepomgaeadpaaGreatDoorW.PrintMore Go.Proofs.YtddepomgaeadpaaGreatDoor.PAll
set_option linter.unusedVariables false
theorem rwith_f {l : List S31} (hl : l.length ≤ 1000) (c d t : Int) : hortatorref7_with.f l c d t = some (l ++ [(⟨c, d, t⟩ : S31)]) := by
  unfold hortatorref7_with.f
  rw [if_pos (by simp only [List.length_nil]; omega), Option.bind_some, Option.bind_some, List.nil_append, if_pos (by simp only [List.length_cons, List.length_nil]; omega)]

theorem rmost_l0 {l : List S31} {d t hi : Int} (hl : l.length ≤ 23) (hh : hi ≤ 200) (n : Nat) : ∀ (c : Int) (k : Nat), c ≤ hi → 0 ≤ c ∨ c = hi → (∀ e, c < e → e ≤ hi → ¬ (1 ≤ e ∧ FitOne (lds l) d t e)) → c.toNat ≤ n → 530001 + n < k →
    ∃ r, hortatorref7_Most.l0 k l d t c = some r ∧ IsTop (fun c => 1 ≤ c ∧ FitOne (lds l) d t c) hi r := by
  induction n with
  | zero =>
    intro c k c1 c2 hc hn hk
    obtain ⟨k, rfl⟩ : ∃ m, k = m + 1 := ⟨k - 1, by omega⟩
    rw [hortatorref7_Most.l0, if_neg (by omega)]
    exact ⟨0, rfl, Int.le_refl _, Or.inl rfl, fun e e1 e2 => hc e (by omega) e2⟩
  | succ n ih =>
    intro c k c1 c2 hc hn hk
    obtain ⟨k, rfl⟩ : ∃ m, k = m + 1 := ⟨k - 1, by omega⟩
    rw [hortatorref7_Most.l0]
    by_cases g : c ≥ 1
    · rw [if_pos g, rwith_f (by omega), Option.bind_some, rfits_f (by simp; omega) (by omega), Option.bind_some, lds_append]
      by_cases f : fitsV (lds l ++ lds [(⟨c, d, t⟩ : S31)]) = true
      · rw [if_pos f]
        exact ⟨c, rfl, by omega, Or.inr ⟨c1, g, fitsV_iff.mp f⟩, hc⟩
      · rw [if_neg f, w64 (x := c - 1) (by omega) (by omega)]
        refine ih (c - 1) k (by omega) (by omega) (fun e e1 e2 => ?_) (by omega) (by omega)
        by_cases z : e = c
        · rw [z]; exact fun q => f (fitsV_iff.mpr q.2)
        · exact hc e (by omega) e2
    · rw [if_neg g]
      exact ⟨0, rfl, Int.le_refl _, Or.inl rfl, fun e e1 e2 => hc e (by omega) e2⟩
theorem rmost_f {l : List S31} (hl : l.length ≤ 1000) (d t top : Int) {k : Nat} (hk : 531000 ≤ k) : hortatorref7_Most.f k l d t top = most_Fit.f k l d t top := by
  obtain ⟨k', hk'⟩ : ∃ m, k = m + 1 := ⟨k - 1, by omega⟩
  have bad : hortatorref7_Most.j0 k l d t top true = some 0 := by rw [hk', hortatorref7_Most.j0, if_pos rfl]
  unfold hortatorref7_Most.f
  by_cases c1 : (l.length : Int) > 23
  · rw [if_pos c1, bad, fit_bad (by rw [← Bool.not_eq_true]; exact fun h => by have := (mayMost_iff.mp h).1; rw [lds_length] at this; omega) (by omega)]
  rw [if_neg c1, rfits_f hl (by omega), Option.bind_some]
  by_cases c2 : fitsV (lds l) = true
  · rw [if_pos c2]
    by_cases c3 : d < 1
    · rw [if_pos c3, bad, fit_bad (by rw [← Bool.not_eq_true]; exact fun h => by have := (mayMost_iff.mp h).2.1; omega) (by omega)]
    rw [if_neg c3]
    by_cases c4 : t < d
    · rw [if_pos c4, bad, fit_bad (by rw [← Bool.not_eq_true]; exact fun h => by have := (mayMost_iff.mp h).2.2.1; omega) (by omega)]
    rw [if_neg c4]
    by_cases c5 : t > 200
    · rw [decide_eq_true c5, bad, fit_bad (by rw [← Bool.not_eq_true]; exact fun h => by have := (mayMost_iff.mp h).2.2.2.1; omega) (by omega)]
    rw [decide_eq_false c5, hk', hortatorref7_Most.j0, if_neg (by decide), mn_eq]
    have hb : mayMost (lds l) d t = true := mayMost_iff.mpr ⟨by rw [lds_length]; omega, by omega, by omega, by omega, fitsV_iff.mp c2⟩
    obtain ⟨r, hr, hT⟩ := fit_f (top := top) hb (k := k) (by omega)
    obtain ⟨r2, hr2, hT2⟩ := rmost_l0 (l := l) (d := d) (t := t) (hi := min top d) (by omega) (by omega) 200 (min top d) k' (Int.le_refl _) (Or.inr rfl) (fun e e1 e2 => by omega) (by omega) (by omega)
    rw [hr2, ← hk', hr, hT.unique hT2]
  · rw [if_neg c2, bad, fit_bad (by rw [← Bool.not_eq_true]; exact fun h => c2 (fitsV_iff.mpr (mayMost_iff.mp h).2.2.2.2)) (by omega)]
theorem rtight_l0 {l : List S31} {t top : Int} (hl : l.length ≤ 23) (ht : t ≤ 200) (n : Nat) : ∀ (c : Int) (k : Nat), 0 ≤ c → (c = 0 ∨ c ≤ min top t) → (∀ e, 1 ≤ e → e ≤ c → FitTight (lds l) t e) → (201 - c).toNat ≤ n → 530001 + n < k →
    ∃ r, hortatorref7_Tight.l0 k l t top c = some r ∧ IsRun (FitTight (lds l) t) (min top t) r := by
  induction n with
  | zero =>
    intro c k c0 c1 hc hn hk
    obtain ⟨k, rfl⟩ : ∃ m, k = m + 1 := ⟨k - 1, by omega⟩
    omega
  | succ n ih =>
    intro c k c0 c1 hc hn hk
    obtain ⟨k, rfl⟩ : ∃ m, k = m + 1 := ⟨k - 1, by omega⟩
    rw [hortatorref7_Tight.l0, mn_eq]
    by_cases g : c < min top t
    · rw [if_pos g, w64 (x := c + 1) (by omega) (by omega), rwith_f (by omega), Option.bind_some, rfits_f (by simp; omega) (by omega), Option.bind_some, lds_append]
      by_cases f : fitsV (lds l ++ lds [(⟨c + 1, c + 1, t⟩ : S31)]) = true
      · rw [if_pos f]
        refine ih (c + 1) k (by omega) (by omega) (fun e e1 e2 => ?_) (by omega) (by omega)
        by_cases z : e = c + 1
        · rw [z]; exact fitsV_iff.mp f
        · exact hc e e1 (by omega)
      · rw [if_neg f]
        exact ⟨c, rfl, c0, c1, hc, fun _ q => f (fitsV_iff.mpr q)⟩
    · rw [if_neg g]
      exact ⟨c, rfl, c0, c1, hc, fun z => absurd z g⟩
theorem rtight_f {l : List S31} (hl : l.length ≤ 1000) (t top : Int) {k : Nat} (hk : 531000 ≤ k) : hortatorref7_Tight.f k l t top = most_Tight.f k l t top := by
  obtain ⟨k', hk'⟩ : ∃ m, k = m + 1 := ⟨k - 1, by omega⟩
  have bad : hortatorref7_Tight.j0 k l t top true = some 0 := by rw [hk', hortatorref7_Tight.j0, if_pos rfl]
  unfold hortatorref7_Tight.f
  by_cases c1 : (l.length : Int) > 23
  · rw [if_pos c1, bad, tight_bad (by rw [← Bool.not_eq_true]; exact fun h => by have := (mayMost_iff.mp h).1; rw [lds_length] at this; omega) (by omega)]
  rw [if_neg c1, rfits_f hl (by omega), Option.bind_some]
  by_cases c2 : fitsV (lds l) = true
  · rw [if_pos c2]
    by_cases c3 : t < 1
    · rw [if_pos c3, bad, tight_bad (by rw [← Bool.not_eq_true]; exact fun h => by have := (mayMost_iff.mp h).2.1; omega) (by omega)]
    rw [if_neg c3]
    by_cases c5 : t > 200
    · rw [decide_eq_true c5, bad, tight_bad (by rw [← Bool.not_eq_true]; exact fun h => by have := (mayMost_iff.mp h).2.2.2.1; omega) (by omega)]
    rw [decide_eq_false c5, hk', hortatorref7_Tight.j0, if_neg (by decide)]
    have hb : mayMost (lds l) t t = true := mayMost_iff.mpr ⟨by rw [lds_length]; omega, by omega, by omega, by omega, fitsV_iff.mp c2⟩
    obtain ⟨r, hr, hT⟩ := tight_f (top := top) hb (k := k) (by omega)
    obtain ⟨r2, hr2, hT2⟩ := rtight_l0 (l := l) (t := t) (top := top) (by omega) (by omega) 201 0 k' (Int.le_refl _) (Or.inl rfl) (fun e e1 e2 => by omega) (by omega) (by omega)
    rw [hr2, ← hk', hr, hT.unique hT2]
  · rw [if_neg c2, bad, tight_bad (by rw [← Bool.not_eq_true]; exact fun h => c2 (fitsV_iff.mpr (mayMost_iff.mp h).2.2.2.2)) (by omega)]
end Go.Proofs.YtddepomgaeadpaaGreatDoor.LoadMath
