/- MostAll: the plain statement. -/
import Derived.Test.YtddepomgaeadpaaGreatDoorPu0
import Derived.Test.YtddepomgaeadpaaGreatDoorRefC
namespace Go.Proofs.YtddepomgaeadpaaGreatDoor.Pure
open Go.RowKit Go.Proofs.YtddepomgaeadpaaGreatDoorW.PrintWords Go.Proofs.YtddepomgaeadpaaGreatDoorW.PrintMore Go.Proofs.YtddepomgaeadpaaGreatDoor.LoadMath Go.Proofs.YtddepomgaeadpaaGreatDoor.PAll Go.Proofs.YtddepomgaeadpaaGreatDoor.On
set_option linter.unusedVariables false
theorem MostAll (l0 : List S31) (u0 : ∀ x ∈ l0, I64 x.f0 ∧ I64 x.f1 ∧ I64 x.f2) (a1 : Int) (h1 : I64 a1) (a2 : Int) (h2 : I64 a2) (a3 : Int) (h3 : I64 a3) : ∃ k, hortatorlaw9_MostAll.f k l0 a1 a2 a3 = some true := by
  refine ⟨K, ?_⟩
  unfold hortatorlaw9_MostAll.f
  rw [b9, Option.bind_some, if_pos rfl, loads_f, Option.bind_some]
  have l10 := len10 l0
  generalize l0.take 10 = l at *
  rw [rmost_f (by omega) _ _ _ (by decide), rtight_f (by omega) _ _ (by decide)]
  obtain ⟨r, hr, _⟩ := fitTop_nonneg (l := l) (d := a1) (t := a2) (top := a3)
  have : ∃ r, most_Tight.f K l a2 a3 = some r := by
    cases hb : mayMost (lds l) a2 a2
    · exact ⟨0, tight_bad hb (by decide)⟩
    · obtain ⟨r, hr, hT⟩ := tight_f (top := a3) hb (k := K) (by decide)
      exact ⟨r, hr⟩
  obtain ⟨q, hq⟩ := this
  rw [hr, Option.bind_some, Option.bind_some, if_pos rfl, hq, Option.bind_some, Option.bind_some]
  simp
end Go.Proofs.YtddepomgaeadpaaGreatDoor.Pure
