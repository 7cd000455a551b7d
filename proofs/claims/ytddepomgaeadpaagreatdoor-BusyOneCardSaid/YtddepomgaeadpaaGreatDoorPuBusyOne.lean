/- BusyOne: the plain statement. -/
import Derived.Test.YtddepomgaeadpaaGreatDoorPu
import Derived.Test.YtddepomgaeadpaaGreatDoorPAllx11
namespace Go.Proofs.YtddepomgaeadpaaGreatDoor.Pure
open Go.RowKit Go.Proofs.YtddepomgaeadpaaGreatDoorW.PrintWords Go.Proofs.YtddepomgaeadpaaGreatDoorW.PrintMore Go.Proofs.YtddepomgaeadpaaGreatDoor.LoadMath Go.Proofs.YtddepomgaeadpaaGreatDoor.PAll Go.Proofs.YtddepomgaeadpaaGreatDoor.On
set_option linter.unusedVariables false
theorem BusyOne (a0 : Int) (h0 : I64 a0) (a1 : Int) (h1 : I64 a1) : ∃ k, hortatorlaw9_BusyOne.f k a0 a1 = some true := by
  refine ⟨K, ?_⟩
  unfold hortatorlaw9_BusyOne.f
  have g0 := b255 a0
  have g1 := b127 a1
  rw [b9, Option.bind_some, if_pos rfl, w64 (x := 1 + bits .and .i64 a0 255) (by omega) (by omega), w64 (x := 1 + bits .and .i64 a1 127) (by omega) (by omega)]
  generalize bits .and .i64 a0 255 = c0 at *
  generalize bits .and .i64 a1 127 = t0 at *
  obtain ⟨c, hc⟩ : ∃ c, 1 + c0 = c := ⟨_, rfl⟩
  obtain ⟨t, ht⟩ : ∃ t, 1 + t0 = t := ⟨_, rfl⟩
  rw [hc, ht, time_f _ (by decide), Option.bind_some]
  have e : lds [(⟨c, t, t⟩ : S31)] = [⟨c, t, t⟩] := rfl
  rw [e, one_time (by omega) (by omega) (by omega) (by omega)]
  by_cases h : c ≤ t
  · rw [if_pos h]; simp [h]
  · rw [if_neg h]; simp [h]
end Go.Proofs.YtddepomgaeadpaaGreatDoor.Pure
