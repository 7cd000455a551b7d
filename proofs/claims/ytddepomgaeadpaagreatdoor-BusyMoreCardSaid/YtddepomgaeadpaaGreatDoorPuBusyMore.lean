/- BusyMore: the plain statement. -/
import Derived.Test.YtddepomgaeadpaaGreatDoorPu
import Derived.Test.YtddepomgaeadpaaGreatDoorPAllx12
import Derived.Test.YtddepomgaeadpaaGreatDoorRefA0
namespace Go.Proofs.YtddepomgaeadpaaGreatDoor.Pure
open Go.RowKit Go.Proofs.YtddepomgaeadpaaGreatDoorW.PrintWords Go.Proofs.YtddepomgaeadpaaGreatDoorW.PrintMore Go.Proofs.YtddepomgaeadpaaGreatDoor.LoadMath Go.Proofs.YtddepomgaeadpaaGreatDoor.PAll Go.Proofs.YtddepomgaeadpaaGreatDoor.On
set_option linter.unusedVariables false
theorem BusyMore (l0 : List S31) (u0 : ∀ x ∈ l0, I64 x.f0 ∧ I64 x.f1 ∧ I64 x.f2) (a1_0 : Int) (h10 : I64 a1_0) (a1_1 : Int) (h11 : I64 a1_1) (a1_2 : Int) (h12 : I64 a1_2) : ∃ k, hortatorlaw9_BusyMore.f k l0 a1_0 a1_1 a1_2 = some true := by
  refine ⟨K, ?_⟩
  unfold hortatorlaw9_BusyMore.f
  rw [b9, Option.bind_some, if_pos rfl, loads_f, Option.bind_some, loads_f, take10, Option.bind_some, Option.bind_some]
  have l10 := len10 l0
  generalize l0.take 10 = l at *
  rw [if_pos (by simp only [List.length_cons, List.length_nil]; omega), Option.bind_some, time_f _ (by decide), Option.bind_some, time_f _ (by decide), Option.bind_some]
  by_cases hM : May (lds (l ++ [(⟨a1_0, a1_1, a1_2⟩ : S31)]))
  · rw [rloads_may hM (by decide), Option.bind_some, if_pos rfl]
    rw [lds_append] at hM ⊢
    cases h : (timeV (lds l ++ lds [(⟨a1_0, a1_1, a1_2⟩ : S31)])).2
    · rw [if_neg (by decide)]; split <;> rfl
    · obtain ⟨g1, g2⟩ := more_time hM h
      rw [if_pos rfl, if_pos g1]; exact if_pos g2
  · rw [rloads_not hM (by simp; omega) (by decide), Option.bind_some, if_neg (by decide), timeV_bad hM]; rfl
end Go.Proofs.YtddepomgaeadpaaGreatDoor.Pure
