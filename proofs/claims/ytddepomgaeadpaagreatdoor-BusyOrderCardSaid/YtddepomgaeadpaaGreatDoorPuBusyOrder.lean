/- BusyOrder: the plain statement. -/
import Derived.Test.YtddepomgaeadpaaGreatDoorPu
import Derived.Test.YtddepomgaeadpaaGreatDoorPAllx13
namespace Go.Proofs.YtddepomgaeadpaaGreatDoor.Pure
open Go.RowKit Go.Proofs.YtddepomgaeadpaaGreatDoorW.PrintWords Go.Proofs.YtddepomgaeadpaaGreatDoorW.PrintMore Go.Proofs.YtddepomgaeadpaaGreatDoor.LoadMath Go.Proofs.YtddepomgaeadpaaGreatDoor.PAll Go.Proofs.YtddepomgaeadpaaGreatDoor.On
set_option linter.unusedVariables false
theorem BusyOrder (l0 : List S31) (u0 : ∀ x ∈ l0, I64 x.f0 ∧ I64 x.f1 ∧ I64 x.f2) (a1 : Int) (h1 : I64 a1) : ∃ k, hortatorlaw9_BusyOrder.f k l0 a1 = some true := by
  refine ⟨K, ?_⟩
  unfold hortatorlaw9_BusyOrder.f
  rw [b9, Option.bind_some, if_pos rfl, loads_f, Option.bind_some]
  have l10 := len10 l0
  generalize l0.take 10 = l at *
  by_cases c : (l.length : Int) = 0
  · rw [if_pos c, fits_f _ (by decide), lds_nil, fitsV_iff.mpr fit_nil]; rfl
  · rw [if_neg c]
    have r1 := tmod_range a1 (show 1 ≤ (l.length : Int) by omega)
    generalize Int.tmod a1 (l.length : Int) = y at *
    rw [w64 (x := y + (l.length : Int)) (by omega) (by omega), Int.tmod_eq_emod_of_nonneg (by omega)]
    have r2 := Int.emod_nonneg (y + (l.length : Int)) (show (l.length : Int) ≠ 0 by omega)
    have r3 := Int.emod_lt_of_pos (y + (l.length : Int)) (show 0 < (l.length : Int) by omega)
    generalize (y + (l.length : Int)) % (l.length : Int) = n at *
    rw [if_pos r2, if_pos (by omega), Option.bind_some, if_pos (by simp only [List.length_nil, List.length_drop]; omega), Option.bind_some, Option.bind_some, List.nil_append, if_pos (by simp only [List.length_take, List.length_drop]; omega), Option.bind_some]
    obtain ⟨e1, e2, e3⟩ := turn_time (lds (l.take n.toNat)) (lds (l.drop n.toNat))
    rw [← lds_append, ← lds_append, List.take_append_drop] at e1 e2 e3
    simp only [time_f _ (show 20100 ≤ K by decide), first_f _ (show 500000 ≤ K by decide), fits_f _ (show 500000 ≤ K by decide), Option.bind_some, ← e1, ← e2, ← e3]
    simp
end Go.Proofs.YtddepomgaeadpaaGreatDoor.Pure
