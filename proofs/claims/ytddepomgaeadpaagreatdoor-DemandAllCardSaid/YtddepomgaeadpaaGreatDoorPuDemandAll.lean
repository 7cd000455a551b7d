/- DemandAll: the plain statement. -/
import Derived.Test.YtddepomgaeadpaaGreatDoorPu
import Derived.Test.YtddepomgaeadpaaGreatDoorRefB
import Derived.Test.YtddepomgaeadpaaGreatDoorPAllx20
namespace Go.Proofs.YtddepomgaeadpaaGreatDoor.Pure
open Go.RowKit Go.Proofs.YtddepomgaeadpaaGreatDoorW.PrintWords Go.Proofs.YtddepomgaeadpaaGreatDoorW.PrintMore Go.Proofs.YtddepomgaeadpaaGreatDoor.LoadMath Go.Proofs.YtddepomgaeadpaaGreatDoor.PAll Go.Proofs.YtddepomgaeadpaaGreatDoor.On
set_option linter.unusedVariables false
theorem DemandAll (l0 : List S31) (u0 : ∀ x ∈ l0, I64 x.f0 ∧ I64 x.f1 ∧ I64 x.f2) (a1 : Int) (h1 : I64 a1) : ∃ k, hortatorlaw9_DemandAll.f k l0 a1 = some true := by
  refine ⟨K, ?_⟩
  unfold hortatorlaw9_DemandAll.f
  rw [b9, Option.bind_some, if_pos rfl, loads_f, Option.bind_some]
  have l10 := len10 l0
  generalize l0.take 10 = l at *
  obtain ⟨r, hr⟩ := bound_tot l a1
  rw [first_f _ (by decide), Option.bind_some, rbound_f (by omega) (by decide), hr, fits_f _ (by decide)]
  cases h : (timeV (lds l)).2
  · rw [rover_bad h (by omega) (by decide), Option.bind_some, Option.bind_some, Option.bind_some, if_pos rfl, Option.bind_some, if_neg (by decide), firstV_no h]
    have : fitsV (lds l) = false := by unfold fitsV; rw [h]; rfl
    rw [this]; rfl
  · rw [rover_ok h (by decide), Option.bind_some, Option.bind_some, Option.bind_some, if_pos rfl, Option.bind_some, if_pos rfl]
    have z := first_zero h
    have p := first_pos (lds l)
    have e1 : fitsV (lds l) = !(firstV (lds l)).2 := by unfold fitsV; rw [h]; rfl
    rw [e1]
    cases e : (firstV (lds l)).2
    · have : ¬ 0 < (firstV (lds l)).1 := fun q => by rw [e] at z; exact absurd (z.mpr q) (by decide)
      have : (firstV (lds l)).1 = 0 := by omega
      rw [this]; rfl
    · have y := z.mp e
      have : ((firstV (lds l)).1 == 0) = false := by simp; omega
      have w : (decide (((firstV (lds l)).1, true).1 > 0)) = true := decide_eq_true y
      rw [if_pos rfl, this, w]; rfl
end Go.Proofs.YtddepomgaeadpaaGreatDoor.Pure
