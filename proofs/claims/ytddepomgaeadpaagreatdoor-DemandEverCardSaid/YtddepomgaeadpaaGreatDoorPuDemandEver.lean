/- DemandEver: the plain statement. -/
import Derived.Test.YtddepomgaeadpaaGreatDoorPu
import Derived.Test.YtddepomgaeadpaaGreatDoorRefB
import Derived.Test.YtddepomgaeadpaaGreatDoorPAllx20
namespace Go.Proofs.YtddepomgaeadpaaGreatDoor.Pure
open Go.RowKit Go.Proofs.YtddepomgaeadpaaGreatDoorW.PrintWords Go.Proofs.YtddepomgaeadpaaGreatDoorW.PrintMore Go.Proofs.YtddepomgaeadpaaGreatDoor.LoadMath Go.Proofs.YtddepomgaeadpaaGreatDoor.PAll Go.Proofs.YtddepomgaeadpaaGreatDoor.On
set_option linter.unusedVariables false
theorem ever_l0 {l : List S31} (hl : l.length ≤ 10) (hF : Fit (lds l)) (xs : List Int) (n : Nat) : ∀ (i k : Nat), i + n = 10 → 500010 + 2 * n < k → hortatorlaw9_DemandEver.l0 k l xs (i : Int) = some true := by
  induction n with
  | zero =>
    intro i k hi hk
    obtain ⟨k, rfl⟩ : ∃ m, k = m + 1 + 1 := ⟨k - 2, by omega⟩
    have out : hortatorlaw9_DemandEver.j1 (k + 1) l xs (i : Int) false = some true := by rw [hortatorlaw9_DemandEver.j1, if_neg (by decide)]
    rw [hortatorlaw9_DemandEver.l0, out, decide_eq_false (show ¬ (i : Int) < 10 by omega), out]; split <;> rfl
  | succ n ih =>
    intro i k hi hk
    obtain ⟨k, rfl⟩ : ∃ m, k = m + 1 + 1 := ⟨k - 2, by omega⟩
    have out : hortatorlaw9_DemandEver.j1 (k + 1) l xs (i : Int) false = some true := by rw [hortatorlaw9_DemandEver.j1, if_neg (by decide)]
    rw [hortatorlaw9_DemandEver.l0]
    by_cases c : (i : Int) < (xs.length : Int)
    · have g := b16 (rd xs (i : Int))
      have hb := bound_f (l := l) ⟨hF.1, hF.2.1⟩ g.1 (by omega)
      rw [if_pos c, decide_eq_true (show (i : Int) < 10 by omega), hortatorlaw9_DemandEver.j1, if_pos rfl, if_pos (by omega), if_pos c, rbound_f (by omega) (by omega), hb, Option.bind_some, if_neg (by have := hF.2.2.2 _ g.1; omega), w64 (x := (i : Int) + 1) (by omega) (by omega)]
      exact ih (i + 1) k (by omega) (by omega)
    · rw [if_neg c, out]
theorem DemandEver (l0 : List S31) (u0 : ∀ x ∈ l0, I64 x.f0 ∧ I64 x.f1 ∧ I64 x.f2) (l1 : List Int) (u1 : ∀ x ∈ l1, I64 x) : ∃ k, hortatorlaw9_DemandEver.f k l0 l1 = some true := by
  refine ⟨K, ?_⟩
  unfold hortatorlaw9_DemandEver.f
  rw [b9, Option.bind_some, if_pos rfl, loads_f, Option.bind_some]
  have l10 := len10 l0
  generalize l0.take 10 = l at *
  rw [fits_f _ (by decide), Option.bind_some]
  by_cases c : fitsV (lds l) = true
  · rw [if_pos c]
    exact ever_l0 l10 (fitsV_iff.mp c) l1 10 0 K (by omega) (by decide)
  · rw [if_neg c]
end Go.Proofs.YtddepomgaeadpaaGreatDoor.Pure
