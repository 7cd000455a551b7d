/- MostTight: the plain statement. -/
import Derived.Test.YtddepomgaeadpaaGreatDoorPu
import Derived.Test.YtddepomgaeadpaaGreatDoorPAllx16
namespace Go.Proofs.YtddepomgaeadpaaGreatDoor.Pure
open Go.RowKit Go.Proofs.YtddepomgaeadpaaGreatDoorW.PrintWords Go.Proofs.YtddepomgaeadpaaGreatDoorW.PrintMore Go.Proofs.YtddepomgaeadpaaGreatDoor.LoadMath Go.Proofs.YtddepomgaeadpaaGreatDoor.PAll Go.Proofs.YtddepomgaeadpaaGreatDoor.On
set_option linter.unusedVariables false
theorem MostTight (l0 : List S31) (u0 : ∀ x ∈ l0, I64 x.f0 ∧ I64 x.f1 ∧ I64 x.f2) (a1 : Int) (h1 : I64 a1) (a2 : Int) (h2 : I64 a2) : ∃ k, hortatorlaw9_MostTight.f k l0 a1 a2 = some true := by
  refine ⟨K, ?_⟩
  unfold hortatorlaw9_MostTight.f
  have g1 := b63 a1
  have g2 := b31 a2
  rw [b9, Option.bind_some, if_pos rfl, w64 (x := 1 + bits .and .i64 a1 63) (by omega) (by omega), w64 (x := 1 + bits .and .i64 a2 31) (by omega) (by omega), loads_f, Option.bind_some]
  generalize bits .and .i64 a1 63 = x1 at *
  generalize bits .and .i64 a2 31 = x2 at *
  obtain ⟨t, ht⟩ : ∃ c, 1 + x1 = c := ⟨_, rfl⟩
  obtain ⟨top, hd⟩ : ∃ c, 1 + x2 = c := ⟨_, rfl⟩
  rw [ht, hd]
  have l10 := len10 l0
  have tk := take10 l0
  generalize l0.take 10 = l at *
  by_cases c : fitsV (lds l) = true
  · have hb : mayMost (lds l) t t = true := mayMost_iff.mpr ⟨by rw [lds_length]; omega, by omega, by omega, by omega, fitsV_iff.mp c⟩
    obtain ⟨r, hr, h0, h1', h2', h3⟩ := tight_f (top := top) hb (k := K) (by decide)
    rw [hr, Option.bind_some, fits_f _ (by decide), Option.bind_some, if_pos c]
    have step : ∀ n : Nat, ∀ (k : Nat) (i : Int), 1 ≤ i → i + n = r + 1 → 500000 + n < k → hortatorlaw9_MostTight.l0 k l t top r i = some true := by
      intro n
      induction n with
      | zero =>
        intro k i i1 i2 hk
        obtain ⟨k, rfl⟩ : ∃ m, k = m + 1 := ⟨k - 1, by omega⟩
        rw [hortatorlaw9_MostTight.l0, if_neg (by omega), mn_eq]
        by_cases e : r = min top t
        · rw [if_pos e]
        · rw [if_neg e, loads_f, tk, Option.bind_some, if_pos (by omega), w64 (x := r + 1) (by omega) (by omega), fits_f _ (by omega), Option.bind_some, lds_append]
          have : fitsV (lds l ++ lds [(⟨r + 1, r + 1, t⟩ : S31)]) = false := fitsV_not (h3 (by omega))
          rw [this]; rfl
      | succ n ih =>
        intro k i i1 i2 hk
        obtain ⟨k, rfl⟩ : ∃ m, k = m + 1 := ⟨k - 1, by omega⟩
        rw [hortatorlaw9_MostTight.l0, if_pos (by omega), loads_f, tk, Option.bind_some, if_pos (by omega), fits_f _ (by omega), Option.bind_some, lds_append]
        have : fitsV (lds l ++ lds [(⟨i, i, t⟩ : S31)]) = true := fitsV_iff.mpr (h2' i i1 (by omega))
        rw [this, if_pos rfl, w64 (x := i + 1) (by omega) (by omega)]
        exact ih k (i + 1) (by omega) (by omega) (by omega)
    exact step r.toNat K 1 (by omega) (by omega) (by simp only [K]; omega)
  · rw [tight_bad (mayMost_unfit c) (by decide), Option.bind_some, fits_f _ (by decide), Option.bind_some, if_neg c]; rfl
end Go.Proofs.YtddepomgaeadpaaGreatDoor.Pure
