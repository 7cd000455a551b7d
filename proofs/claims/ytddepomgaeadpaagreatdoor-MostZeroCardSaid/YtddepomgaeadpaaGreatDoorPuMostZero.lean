/- MostZero: the plain statement. -/
import Derived.Test.YtddepomgaeadpaaGreatDoorPu
import Derived.Test.YtddepomgaeadpaaGreatDoorPAllx18
namespace Go.Proofs.YtddepomgaeadpaaGreatDoor.Pure
open Go.RowKit Go.Proofs.YtddepomgaeadpaaGreatDoorW.PrintWords Go.Proofs.YtddepomgaeadpaaGreatDoorW.PrintMore Go.Proofs.YtddepomgaeadpaaGreatDoor.LoadMath Go.Proofs.YtddepomgaeadpaaGreatDoor.PAll Go.Proofs.YtddepomgaeadpaaGreatDoor.On
set_option linter.unusedVariables false
theorem MostZero (l0 : List S31) (u0 : ∀ x ∈ l0, I64 x.f0 ∧ I64 x.f1 ∧ I64 x.f2) (a1 : Int) (h1 : I64 a1) (a2 : Int) (h2 : I64 a2) (a3 : Int) (h3 : I64 a3) : ∃ k, hortatorlaw9_MostZero.f k l0 a1 a2 a3 = some true := by
  refine ⟨K, ?_⟩
  unfold hortatorlaw9_MostZero.f
  rw [b9, Option.bind_some, if_pos rfl, loads_f, Option.bind_some, fits_f _ (by decide), Option.bind_some]
  by_cases c : fitsV (lds (l0.take 10)) = true
  · rw [if_pos c]
    have e1 : most_Fit.f K (l0.take 10) a1 a2 0 = some 0 := by
      cases hb : mayMost (lds (l0.take 10)) a1 a2
      · exact fit_bad hb (by decide)
      · obtain ⟨r, hr, hT⟩ := fit_f (top := 0) hb (k := K) (by decide)
        rw [hr, top_zero hT]
    have e2 : most_Tight.f K (l0.take 10) a2 (-1) = some 0 := by
      cases hb : mayMost (lds (l0.take 10)) a2 a2
      · exact tight_bad hb (by decide)
      · obtain ⟨r, hr, hT⟩ := tight_f (top := -1) hb (k := K) (by decide)
        rw [hr, run_zero hT]
    rw [e1, Option.bind_some, if_pos rfl, e2]; rfl
  · rw [if_neg c, fit_bad (mayMost_unfit c) (by decide), Option.bind_some, if_pos rfl, tight_bad (mayMost_unfit c) (by decide)]; rfl
end Go.Proofs.YtddepomgaeadpaaGreatDoor.Pure
