/- DemandBound: the plain statement. -/
import Derived.Test.YtddepomgaeadpaaGreatDoorPu
import Derived.Test.YtddepomgaeadpaaGreatDoorPAllx15
import Derived.Test.YtddepomgaeadpaaGreatDoorRefA0
namespace Go.Proofs.YtddepomgaeadpaaGreatDoor.Pure
open Go.RowKit Go.Proofs.YtddepomgaeadpaaGreatDoorW.PrintWords Go.Proofs.YtddepomgaeadpaaGreatDoorW.PrintMore Go.Proofs.YtddepomgaeadpaaGreatDoor.LoadMath Go.Proofs.YtddepomgaeadpaaGreatDoor.PAll Go.Proofs.YtddepomgaeadpaaGreatDoor.On
set_option linter.unusedVariables false
theorem bnd_j0 {l : List S31} {t : Int} (hM : May (lds l)) (h0 : 0 ≤ t) (h1 : t ≤ 19999) {k : Nat} (hk : 100 < k) : hortatorlaw9_DemandBound.j0 k l t false = some true := by
  obtain ⟨k, rfl⟩ : ∃ m, k = m + 1 := ⟨k - 1, by omega⟩
  rw [hortatorlaw9_DemandBound.j0, if_neg (by decide), bound_f hM h0 (by omega), Option.bind_some, asked_f hM h0 (by omega) (by omega), Option.bind_some, if_pos (bound_le_asked hM.2 h0), Option.bind_some, w64 (x := t + 1) (by omega) (by omega), bound_f hM (by omega) (by omega), Option.bind_some, if_pos (bound_mono hM.2 (by omega)), Option.bind_some, asked_f hM (by omega) (by omega) (by omega), Option.bind_some, decide_eq_true (asked_mono hM.2 (by omega))]
theorem DemandBound (l0 : List S31) (u0 : ∀ x ∈ l0, I64 x.f0 ∧ I64 x.f1 ∧ I64 x.f2) (a1 : Int) (h1 : I64 a1) : ∃ k, hortatorlaw9_DemandBound.f k l0 a1 = some true := by
  refine ⟨K, ?_⟩
  unfold hortatorlaw9_DemandBound.f
  rw [b9, Option.bind_some, if_pos rfl, loads_f, Option.bind_some]
  have l10 := len10 l0
  generalize l0.take 10 = l at *
  have out : hortatorlaw9_DemandBound.j0 K l a1 true = some true := rfl
  rw [out]
  by_cases c1 : a1 < 0
  · rw [if_pos c1]
  rw [if_neg c1]
  by_cases c2 : a1 > 19999
  · rw [if_pos c2]
  rw [if_neg c2]
  by_cases hM : May (lds l)
  · rw [rloads_may hM (by decide), Option.bind_some]
    exact bnd_j0 hM (by omega) (by omega) (by decide)
  · rw [rloads_not hM (by omega) (by decide), Option.bind_some]; exact out
end Go.Proofs.YtddepomgaeadpaaGreatDoor.Pure
