/- MostJust: the plain statement. -/
import Derived.Test.YtddepomgaeadpaaGreatDoorPu
import Derived.Test.YtddepomgaeadpaaGreatDoorPAllx19
namespace Go.Proofs.YtddepomgaeadpaaGreatDoor.Pure
open Go.RowKit Go.Proofs.YtddepomgaeadpaaGreatDoorW.PrintWords Go.Proofs.YtddepomgaeadpaaGreatDoorW.PrintMore Go.Proofs.YtddepomgaeadpaaGreatDoor.LoadMath Go.Proofs.YtddepomgaeadpaaGreatDoor.PAll Go.Proofs.YtddepomgaeadpaaGreatDoor.On
set_option linter.unusedVariables false
theorem MostJust (l0 : List S31) (u0 : ∀ x ∈ l0, I64 x.f0 ∧ I64 x.f1 ∧ I64 x.f2) (a1 : Int) (h1 : I64 a1) (a2 : Int) (h2 : I64 a2) (a3 : Int) (h3 : I64 a3) : ∃ k, hortatorlaw9_MostJust.f k l0 a1 a2 a3 = some true := by
  refine ⟨K, ?_⟩
  unfold hortatorlaw9_MostJust.f
  have g1 := b31 a1
  have g2 := b63 a2
  have g3 := b31 a3
  rw [b9, Option.bind_some, if_pos rfl, w64 (x := 1 + bits .and .i64 a1 31) (by omega) (by omega), w64 (x := 1 + bits .and .i64 a2 63) (by omega) (by omega), w64 (x := 1 + bits .and .i64 a3 31) (by omega) (by omega), loads_f, Option.bind_some]
  generalize bits .and .i64 a1 31 = x1 at *
  generalize bits .and .i64 a2 63 = x2 at *
  generalize bits .and .i64 a3 31 = x3 at *
  obtain ⟨d, hd⟩ : ∃ c, 1 + x1 = c := ⟨_, rfl⟩
  obtain ⟨t, ht⟩ : ∃ c, 1 + x2 = c := ⟨_, rfl⟩
  obtain ⟨top, hp⟩ : ∃ c, 1 + x3 = c := ⟨_, rfl⟩
  rw [hd, ht, hp]
  have l10 := len10 l0
  have tk := take10 l0
  generalize l0.take 10 = l at *
  have zero : ∀ k, 1 ≤ k → hortatorlaw9_MostJust.j0 k l d t top 0 true = some true := by
    intro k hk
    obtain ⟨k, rfl⟩ : ∃ m, k = m + 1 := ⟨k - 1, by omega⟩
    rw [hortatorlaw9_MostJust.j0, if_pos rfl]; rfl
  by_cases c : fitsV (lds l) = true
  · by_cases cd : d > t
    · have hb : mayMost (lds l) d t = false := not_true (fun h => by have := mayMost_iff.mp h; omega)
      rw [fit_bad hb (by decide), Option.bind_some, fits_f _ (by decide), Option.bind_some, if_pos c, decide_eq_true cd]
      exact zero K (by decide)
    · have hb : mayMost (lds l) d t = true := mayMost_iff.mpr ⟨by rw [lds_length]; omega, by omega, by omega, by omega, fitsV_iff.mp c⟩
      obtain ⟨r, hr, p0, p1, p2⟩ := fit_f (top := top) hb (k := K) (by decide)
      rw [hr, Option.bind_some, fits_f _ (by decide), Option.bind_some, if_pos c, decide_eq_false cd]
      have r32 : r ≤ 32 := by rcases p1 with z | ⟨z, _⟩ <;> omega
      obtain ⟨k, hk⟩ : ∃ m, K = m + 1 := ⟨K - 1, by decide⟩
      have hk2 : 500000 ≤ k := by simp only [K] at hk; omega
      rw [hk, hortatorlaw9_MostJust.j0, if_neg (by decide), loads_f, tk, Option.bind_some, if_pos (by omega), Option.bind_some, if_pos (by omega), Option.bind_some, mn_eq, w64 (x := r + 1) (by omega) (by omega), fits_f _ hk2, fits_f _ hk2, lds_append, lds_append]
      have last : (if r = min top d then some true else (some (fitsV (lds l ++ lds [(⟨r + 1, d, t⟩ : S31)]))).bind fun t => some (!t)) = some true := by
        by_cases e : r = min top d
        · rw [if_pos e]
        · rw [if_neg e]
          have hlt : r < min top d := by rcases p1 with z | ⟨z, _⟩ <;> omega
          have : fitsV (lds l ++ lds [(⟨r + 1, d, t⟩ : S31)]) = false := fitsV_not (fun z => p2 (r + 1) (by omega) (by omega) ⟨by omega, z⟩)
          rw [this]; rfl
      by_cases r0 : r = 0
      · rw [if_pos r0]; exact last
      · rw [if_neg r0, Option.bind_some]
        have : fitsV (lds l ++ lds [(⟨r, d, t⟩ : S31)]) = true := by
          rcases p1 with z | ⟨_, _, z⟩
          · exact absurd z r0
          · exact fitsV_iff.mpr z
        rw [this, if_pos rfl]; exact last
  · rw [fit_bad (mayMost_unfit c) (by decide), Option.bind_some, fits_f _ (by decide), Option.bind_some, if_neg c]
    exact zero K (by decide)
end Go.Proofs.YtddepomgaeadpaaGreatDoor.Pure
