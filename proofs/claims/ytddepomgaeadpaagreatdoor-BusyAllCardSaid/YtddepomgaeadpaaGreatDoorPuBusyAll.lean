/- BusyAll: the plain statement. -/
import Derived.Test.YtddepomgaeadpaaGreatDoorPu
import Derived.Test.YtddepomgaeadpaaGreatDoorPAllx6
import Derived.Test.YtddepomgaeadpaaGreatDoorRefA
namespace Go.Proofs.YtddepomgaeadpaaGreatDoor.Pure
open Go.RowKit Go.Proofs.YtddepomgaeadpaaGreatDoorW.PrintWords Go.Proofs.YtddepomgaeadpaaGreatDoorW.PrintMore Go.Proofs.YtddepomgaeadpaaGreatDoor.LoadMath Go.Proofs.YtddepomgaeadpaaGreatDoor.PAll Go.Proofs.YtddepomgaeadpaaGreatDoor.On
set_option linter.unusedVariables false
theorem BusyAll (l0 : List S31) (u0 : ∀ x ∈ l0, I64 x.f0 ∧ I64 x.f1 ∧ I64 x.f2) (a1 : Int) (h1 : I64 a1) : ∃ k, hortatorlaw9_BusyAll.f k l0 a1 = some true := by
  refine ⟨K, ?_⟩
  unfold hortatorlaw9_BusyAll.f
  rw [b9, Option.bind_some, if_pos rfl, loads_f, Option.bind_some]
  have l10 := len10 l0
  generalize l0.take 10 = l at *
  rw [time_f _ (by decide), Option.bind_some, rtime_f (by omega) (by decide), Option.bind_some, rask_f (by omega) (by decide)]
  have : ∃ r, busy_Asked.f K l a1 = some r := by
    by_cases h : May (lds l) ∧ 0 ≤ a1 ∧ a1 ≤ 20000
    · exact ⟨_, asked_f h.1 h.2.1 h.2.2 (by decide)⟩
    · refine ⟨_, asked_bad ?_ (by decide)⟩
      by_cases m : May (lds l)
      · right; by_cases z : 0 ≤ a1
        · right; by_cases y : a1 ≤ 20000
          · exact absurd ⟨m, z, y⟩ h
          · omega
        · left; omega
      · left; exact m
  obtain ⟨r, hr⟩ := this
  rw [hr, Option.bind_some, Option.bind_some, if_pos rfl, if_pos rfl]
  simp
end Go.Proofs.YtddepomgaeadpaaGreatDoor.Pure
