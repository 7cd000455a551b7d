/- DemandTwo: the plain statement. -/
import Derived.Test.YtddepomgaeadpaaGreatDoorPu
import Derived.Test.YtddepomgaeadpaaGreatDoorPAllx18
namespace Go.Proofs.YtddepomgaeadpaaGreatDoor.Pure
open Go.RowKit Go.Proofs.YtddepomgaeadpaaGreatDoorW.PrintWords Go.Proofs.YtddepomgaeadpaaGreatDoorW.PrintMore Go.Proofs.YtddepomgaeadpaaGreatDoor.LoadMath Go.Proofs.YtddepomgaeadpaaGreatDoor.PAll Go.Proofs.YtddepomgaeadpaaGreatDoor.On
set_option linter.unusedVariables false
theorem DemandTwo (a0 : Int) (h0 : I64 a0) (a1 : Int) (h1 : I64 a1) (a2 : Int) (h2 : I64 a2) (a3 : Int) (h3 : I64 a3) (a4 : Int) (h4 : I64 a4) : ∃ k, hortatorlaw9_DemandTwo.f k a0 a1 a2 a3 a4 = some true := by
  refine ⟨K, ?_⟩
  unfold hortatorlaw9_DemandTwo.f
  have g0 := b31 a0
  have g1 := b31 a1
  have g4 := b31 a4
  rw [b9, Option.bind_some, if_pos rfl, w64 (x := 1 + bits .and .i64 a0 31) (by omega) (by omega), w64 (x := 1 + bits .and .i64 a1 31) (by omega) (by omega), w64 (x := 2 + bits .and .i64 a4 31) (by omega) (by omega)]
  generalize bits .and .i64 a0 31 = x0 at *
  generalize bits .and .i64 a1 31 = x1 at *
  generalize bits .and .i64 a4 31 = x4 at *
  obtain ⟨a, ha⟩ : ∃ c, 1 + x0 = c := ⟨_, rfl⟩
  obtain ⟨b, hb⟩ : ∃ c, 1 + x1 = c := ⟨_, rfl⟩
  obtain ⟨t, ht⟩ : ∃ t, 2 + x4 = t := ⟨_, rfl⟩
  rw [ha, hb, ht]
  have r2 := tmod_range a2 (show 1 ≤ t by omega)
  have r3 := tmod_range a3 (show 1 ≤ t by omega)
  rw [w64 (x := 1 + Int.tmod a2 t) (by omega) (by omega), w64 (x := 1 + Int.tmod a3 t) (by omega) (by omega)]
  generalize Int.tmod a2 t = y2 at *
  generalize Int.tmod a3 t = y3 at *
  obtain ⟨d, hd⟩ : ∃ c, 1 + y2 = c := ⟨_, rfl⟩
  obtain ⟨e, he⟩ : ∃ c, 1 + y3 = c := ⟨_, rfl⟩
  rw [hd, he, if_neg (by omega)]
  have key : ∀ k, 500001 ≤ k → 1 ≤ d → 1 ≤ e → hortatorlaw9_DemandTwo.j0 k a b d e t false = some true := by
    intro k hk d1 e1
    obtain ⟨k, rfl⟩ : ∃ m, k = m + 1 := ⟨k - 1, by omega⟩
    simp only [hortatorlaw9_DemandTwo.j0]
    rw [if_neg (by decide), mn_eq, mn_eq, w64 (x := a + b) (by omega) (by omega), fits_two (by omega) (by omega) (by omega) (by omega) (by omega) (by omega) (by omega) (by omega) (by omega) (by omega)]
    simp only [Option.bind_some, mx_eq]
    by_cases c1 : a ≤ min d t
    · rw [if_pos c1]
      by_cases c2 : b ≤ min e t
      · rw [if_pos c2]
        by_cases c3 : a + b > t
        · rw [if_pos c3, decide_eq_false (by omega)]; rfl
        · rw [if_neg c3]
          by_cases c4 : a + b ≤ max (min d t) (min e t)
          · rw [decide_eq_true (show _ ∧ _ ∧ _ from ⟨c1, c2, c4⟩), decide_eq_true c4]; rfl
          · rw [decide_eq_false (fun z => c4 z.2.2), decide_eq_false c4]; rfl
      · rw [if_neg c2, decide_eq_false (fun z => c2 z.2.1)]; split <;> rfl
    · rw [if_neg c1, decide_eq_false (fun z => c1 z.1)]; split <;> rfl
  have tru : ∀ k, 1 ≤ k → hortatorlaw9_DemandTwo.j0 k a b d e t true = some true := by
    intro k hk
    obtain ⟨k, rfl⟩ : ∃ m, k = m + 1 := ⟨k - 1, by omega⟩
    simp only [hortatorlaw9_DemandTwo.j0]; rfl
  by_cases c1 : d < 1
  · rw [if_pos c1]; exact tru K (by decide)
  · rw [if_neg c1]
    by_cases c2 : e < 1
    · rw [decide_eq_true c2]; exact tru K (by decide)
    · rw [decide_eq_false c2]; exact key K (by decide) (by omega) (by omega)
end Go.Proofs.YtddepomgaeadpaaGreatDoor.Pure
