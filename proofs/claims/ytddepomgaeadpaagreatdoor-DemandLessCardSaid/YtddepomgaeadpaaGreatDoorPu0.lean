/- What the plain statements share. -/
import Derived.Test.YtddepomgaeadpaaGreatDoorCoreB
import Derived.Test.YtddepomgaeadpaaGreatDoorBridge
namespace Go.Proofs.YtddepomgaeadpaaGreatDoor.Pure
open Go.RowKit Go.Proofs.YtddepomgaeadpaaGreatDoorW.PrintWords Go.Proofs.YtddepomgaeadpaaGreatDoorW.PrintMore Go.Proofs.YtddepomgaeadpaaGreatDoor.LoadMath Go.Proofs.YtddepomgaeadpaaGreatDoor.PAll Go.Proofs.YtddepomgaeadpaaGreatDoor.On
set_option linter.unusedVariables false
abbrev K : Nat := 600000
theorem b9 : hortatorlaw9_begun.f K = some true := begun9_f (by decide)
/-- In64: every number of a list of loads is one of 64 bits -/
theorem mayMost_nil {d t : Int} : mayMost [] d t = true ↔ 1 ≤ d ∧ d ≤ t ∧ t ≤ 200 := by
  rw [mayMost_iff]
  constructor
  · rintro ⟨_, a, b, c, _⟩; exact ⟨a, b, c⟩
  · rintro ⟨a, b, c⟩; exact ⟨by simp, a, b, c, fit_nil⟩
theorem not_true {b : Bool} (h : ¬ b = true) : b = false := by simpa using h
theorem len10 (l : List S31) : (l.take 10).length ≤ 10 := by rw [List.length_take]; omega
theorem take10 (l : List S31) : (l.take 10).take 10 = l.take 10 := List.take_of_length_le (len10 l)
theorem mayMost_unfit {L : List Ld} {d t : Int} (h : ¬ fitsV L = true) : mayMost L d t = false := not_true (fun z => h (fitsV_iff.mpr (mayMost_iff.mp z).2.2.2.2))
theorem fitTop_nonneg {l : List S31} {d t top : Int} : ∃ r, most_Fit.f K l d t top = some r ∧ 0 ≤ r := by
  cases hb : mayMost (lds l) d t
  · exact ⟨0, fit_bad hb (by decide), by omega⟩
  · obtain ⟨r, hr, hT⟩ := fit_f (top := top) hb (k := K) (by decide)
    exact ⟨r, hr, hT.1⟩
theorem pK : K = 600000 := rfl
theorem bound_tot (l : List S31) (t : Int) : ∃ r, demand_Bound.f l t = some r := by
  by_cases h : May (lds l) ∧ 0 ≤ t ∧ t ≤ 20000
  · exact ⟨_, bound_f h.1 h.2.1 h.2.2⟩
  · refine ⟨_, bound_bad ?_⟩
    by_cases m : May (lds l)
    · right; by_cases z : 0 ≤ t
      · right; by_cases y : t ≤ 20000
        · exact absurd ⟨m, z, y⟩ h
        · omega
      · left; omega
    · left; exact m
end Go.Proofs.YtddepomgaeadpaaGreatDoor.Pure
