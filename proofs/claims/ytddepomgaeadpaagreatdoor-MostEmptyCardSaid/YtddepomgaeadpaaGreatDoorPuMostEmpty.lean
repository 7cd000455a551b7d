/- MostEmpty: the plain statement. -/
import Derived.Test.YtddepomgaeadpaaGreatDoorPu
import Derived.Test.YtddepomgaeadpaaGreatDoorPAllx16
namespace Go.Proofs.YtddepomgaeadpaaGreatDoor.Pure
open Go.RowKit Go.Proofs.YtddepomgaeadpaaGreatDoorW.PrintWords Go.Proofs.YtddepomgaeadpaaGreatDoorW.PrintMore Go.Proofs.YtddepomgaeadpaaGreatDoor.LoadMath Go.Proofs.YtddepomgaeadpaaGreatDoor.PAll Go.Proofs.YtddepomgaeadpaaGreatDoor.On
set_option linter.unusedVariables false
theorem MostEmpty (a0 : Int) (h0 : I64 a0) (a1 : Int) (h1 : I64 a1) (a2 : Int) (h2 : I64 a2) : ∃ k, hortatorlaw9_MostEmpty.f k a0 a1 a2 = some true := by
  refine ⟨K, ?_⟩
  unfold hortatorlaw9_MostEmpty.f
  have g0 := b127 a0
  have g1 := b127 a1
  have g2 := b127 a2
  rw [b9, Option.bind_some, if_pos rfl, w64 (x := 1 + bits .and .i64 a0 127) (by omega) (by omega), w64 (x := 1 + bits .and .i64 a1 127) (by omega) (by omega)]
  generalize bits .and .i64 a0 127 = d0 at *
  generalize bits .and .i64 a1 127 = t0 at *
  generalize bits .and .i64 a2 127 = top at *
  obtain ⟨d, hd⟩ : ∃ c, 1 + d0 = c := ⟨_, rfl⟩
  obtain ⟨t, ht⟩ : ∃ t, 1 + t0 = t := ⟨_, rfl⟩
  rw [hd, ht]
  by_cases c : d > t
  · have hb : mayMost (lds []) d t = false := not_true (fun h => by have := mayMost_nil.mp h; omega)
    rw [if_pos c, fit_bad hb (by decide)]; rfl
  · have hb : mayMost (lds []) d t = true := mayMost_nil.mpr ⟨by omega, by omega, by omega⟩
    have hb2 : mayMost (lds []) t t = true := mayMost_nil.mpr ⟨by omega, by omega, by omega⟩
    obtain ⟨r, hr, hT⟩ := fit_f (top := top) hb (k := K) (by decide)
    obtain ⟨r2, hr2, hT2⟩ := tight_f (top := top) hb2 (k := K) (by decide)
    have e1 : r = min top d := by
      have : IsTop (fun c => 1 ≤ c ∧ FitOne (lds []) d t c) (min top d) (min top d) := by
        refine ⟨by omega, ?_, fun c c1 c2 => by omega⟩
        by_cases z : min top d = 0
        · exact Or.inl z
        · exact Or.inr ⟨Int.le_refl _, by omega, one_fit (by omega) (by omega) (by omega) (by omega)⟩
      exact hT.unique this
    have e2 : r2 = min top t := by
      have : IsRun (FitTight (lds []) t) (min top t) (min top t) := by
        refine ⟨by omega, Or.inr (Int.le_refl _), fun c c1 c2 => one_fit c1 (Int.le_refl _) (by omega) (by omega), fun z => by omega⟩
      exact hT2.unique this
    rw [if_neg c, hr, Option.bind_some, mn_eq, if_pos e1, hr2, Option.bind_some, mn_eq, e2]; simp
end Go.Proofs.YtddepomgaeadpaaGreatDoor.Pure
