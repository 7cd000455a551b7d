/- DemandNone: the plain statement. -/
import Derived.Test.YtddepomgaeadpaaGreatDoorPu
import Derived.Test.YtddepomgaeadpaaGreatDoorPAllx15
import Derived.Test.YtddepomgaeadpaaGreatDoorRefA0
namespace Go.Proofs.YtddepomgaeadpaaGreatDoor.Pure
open Go.RowKit Go.Proofs.YtddepomgaeadpaaGreatDoorW.PrintWords Go.Proofs.YtddepomgaeadpaaGreatDoorW.PrintMore Go.Proofs.YtddepomgaeadpaaGreatDoor.LoadMath Go.Proofs.YtddepomgaeadpaaGreatDoor.PAll Go.Proofs.YtddepomgaeadpaaGreatDoor.On
set_option linter.unusedVariables false
theorem none_j1 (c d t : Int) {k : Nat} (hk : 500001 < k) : hortatorlaw9_DemandNone.j1 k false c d t = some true := by
  obtain ⟨k, rfl⟩ : ∃ m, k = m + 1 := ⟨k - 1, by omega⟩
  rw [hortatorlaw9_DemandNone.j1, if_neg (by decide)]
  have e := rload_f ⟨c, d, t⟩
  simp only at e
  rw [e, Option.bind_some]
  cases h : loadOk ⟨c, d, t⟩
  · have hM : ¬ May (lds [(⟨c, d, t⟩ : S31)]) := by
      intro z
      have := (loadOk_iff ⟨c, d, t⟩).mpr (z.2 _ (by simp [lds]))
      rw [h] at this; cases this
    rw [if_neg (by decide), time_f _ (by omega), Option.bind_some, fits_f _ (by omega), Option.bind_some, fitsV_not (not_fit_of_bad hM), if_neg (by decide), timeV_bad hM, if_neg (by decide), asked_bad (Or.inl hM) (by omega), Option.bind_some, if_pos rfl, bound_bad (Or.inl hM)]; rfl
  · rw [if_pos rfl]
theorem none_l0 {n : Int} (h0 : 0 ≤ n) (h1 : n ≤ 29) (c d t : Int) (m : Nat) : ∀ (i k : Nat), (i : Int) + m = n → 500003 + m < k → hortatorlaw9_DemandNone.l0 k n (ones i) (i : Int) c d t = some true := by
  induction m with
  | zero =>
    intro i k hi hk
    obtain ⟨k, rfl⟩ : ∃ m, k = m + 1 := ⟨k - 1, by omega⟩
    have hi : (i : Int) = n := by omega
    rw [hortatorlaw9_DemandNone.l0, if_neg (by omega), fits_f _ (by omega), Option.bind_some]
    by_cases z : n ≤ 24
    · have hM : May (lds (ones i)) := ⟨by rw [lds_length, ones_len]; omega, ones_ok i⟩
      have hF : fitsV (lds (ones i)) = true := fitsV_iff.mpr (same_fit hM (ones_same i) (by omega) (by omega) (by rw [ones_work]; omega))
      have hA : asked (lds (ones i)) 1 = n := by rw [asked_same (ones_same i), ones_work, rel_one (by omega) (by omega)]; omega
      rw [hF, decide_eq_true z, if_neg (by decide), asked_f hM (by omega) (by omega) (by omega), Option.bind_some, hA]
      have : hortatorlaw9_b2i.f true = some 1 := rfl
      rw [this, Option.bind_some, w64 (x := n * 1) (by omega) (by omega)]
      have : (n != n * 1) = false := by simp
      rw [this]
      exact none_j1 c d t (by omega)
    · have hM : ¬ May (lds (ones i)) := fun y => by have := y.1; rw [lds_length, ones_len] at this; omega
      rw [fitsV_not (not_fit_of_bad hM), decide_eq_false z, if_neg (by decide), asked_bad (Or.inl hM) (by omega), Option.bind_some]
      have : hortatorlaw9_b2i.f false = some 0 := rfl
      rw [this, Option.bind_some, w64 (x := n * 0) (by omega) (by omega)]
      have : ((0 : Int) != n * 0) = false := by simp
      rw [this]
      exact none_j1 c d t (by omega)
  | succ m ih =>
    intro i k hi hk
    obtain ⟨k, rfl⟩ : ∃ m, k = m + 1 := ⟨k - 1, by omega⟩
    rw [hortatorlaw9_DemandNone.l0, if_pos (by omega), if_pos (by rw [ones_len]; omega), ones_succ, w64 (x := (i : Int) + 1) (by omega) (by omega)]
    exact ih (i + 1) k (by omega) (by omega)
theorem DemandNone (a0_0 : Int) (h00 : I64 a0_0) (a0_1 : Int) (h01 : I64 a0_1) (a0_2 : Int) (h02 : I64 a0_2) (a1 : Int) (h1 : I64 a1) : ∃ k, hortatorlaw9_DemandNone.f k a0_0 a0_1 a0_2 a1 = some true := by
  refine ⟨K, ?_⟩
  unfold hortatorlaw9_DemandNone.f
  have r1 := tmod_range a1 (show (1 : Int) ≤ 30 by omega)
  rw [b9, Option.bind_some, if_pos rfl]
  generalize Int.tmod a1 30 = y at *
  rw [w64 (x := y + 30) (by omega) (by omega), Int.tmod_eq_emod_of_nonneg (by omega)]
  have r2 := Int.emod_nonneg (y + 30) (show (30 : Int) ≠ 0 by omega)
  have r3 := Int.emod_lt_of_pos (y + 30) (show (0 : Int) < 30 by omega)
  generalize (y + 30) % (30 : Int) = n at *
  exact none_l0 r2 (by omega) _ _ _ n.toNat 0 K (by omega) (by have := pK; omega)
end Go.Proofs.YtddepomgaeadpaaGreatDoor.Pure
