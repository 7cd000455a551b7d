/- BusySum: the plain statement. -/
import Derived.Test.YtddepomgaeadpaaGreatDoorPu
import Derived.Test.YtddepomgaeadpaaGreatDoorPAllx18
import Derived.Test.YtddepomgaeadpaaGreatDoorRefA0
namespace Go.Proofs.YtddepomgaeadpaaGreatDoor.Pure
open Go.RowKit Go.Proofs.YtddepomgaeadpaaGreatDoorW.PrintWords Go.Proofs.YtddepomgaeadpaaGreatDoorW.PrintMore Go.Proofs.YtddepomgaeadpaaGreatDoor.LoadMath Go.Proofs.YtddepomgaeadpaaGreatDoor.PAll Go.Proofs.YtddepomgaeadpaaGreatDoor.On
set_option linter.unusedVariables false
theorem sum_l0 {l : List S31} {T : Int} (hM : May (lds l)) (hT : timeV (lds l) = (T, true)) (d : Nat) : ∀ (i k : Nat) (s : Int), i + d = l.length → d + 100 < k → s + work (lds (l.drop i)) = work (lds l) → 0 ≤ s → hortatorlaw9_BusySum.l0 k l T true s (i : Int) = some true := by
  have hlen : l.length ≤ 24 := by have := hM.1; rwa [lds_length] at this
  have ht := timeV_ok (l := lds l) (by rw [hT])
  rw [hT] at ht
  simp only at ht
  have wT : work (lds l) ≤ T ∧ asked (lds l) T = T ∧ 0 ≤ T ∧ T ≤ 20000 := by
    rcases ht.2 with ⟨h1, h2⟩ | ⟨h1, h2⟩
    · rw [h1, h2]; exact ⟨Int.le_refl _, rfl, Int.le_refl _, by omega⟩
    · have e := h2.eq hM.2 h1
      have := work_le hM.2 h2.1
      exact ⟨by omega, e, by have := h2.1; omega, h2.2.1⟩
  induction d with
  | zero =>
    intro i k s hi hk hs h0
    obtain ⟨k, rfl⟩ : ∃ m, k = m + 1 := ⟨k - 1, by omega⟩
    rw [List.drop_eq_nil_of_le (by omega)] at hs
    have : work (lds []) = 0 := rfl
    rw [hortatorlaw9_BusySum.l0, if_neg (by omega), if_pos rfl, rloads_may hM (by omega), Option.bind_some, if_pos rfl, if_pos (by omega), asked_f hM wT.2.2.1 wT.2.2.2 (by omega), Option.bind_some, wT.2.1]
    simp
  | succ d ih =>
    intro i k s hi hk hs h0
    obtain ⟨k, rfl⟩ : ∃ m, k = m + 1 := ⟨k - 1, by omega⟩
    have hlt : i < l.length := by omega
    have hx : ok (ld (l.getD i z31)) := ok_getD hM.2 hlt
    have hd := getD_drop (l := l) (k := i) hlt
    have w0 : 0 ≤ work (lds (l.drop (i + 1))) := sum_nonneg _ _ (fun x hx => by have := (okD hM.2 (i + 1) x hx).1; omega)
    have e2 : work (ld (l.getD i z31) :: lds (l.drop (i + 1))) = (l.getD i z31).f0 + work (lds (l.drop (i + 1))) := by simp [work, ld]
    rw [hd, lds_cons, e2] at hs
    have c1 : 1 ≤ (l.getD i z31).f0 := hx.1
    rw [hortatorlaw9_BusySum.l0, if_pos (by omega), if_pos (by omega), rd_nat, w64 (x := s + (l.getD i z31).f0) (by omega) (by omega), w64 (x := (i : Int) + 1) (by omega) (by omega)]
    exact ih (i + 1) k _ (by omega) (by omega) (by omega) (by omega)
theorem sum_no {l : List S31} (hl : l.length ≤ 10) (T : Int) (d : Nat) : ∀ (i k : Nat) (s : Int), i + d = l.length → d < k → hortatorlaw9_BusySum.l0 k l T false s (i : Int) = some true := by
  induction d with
  | zero =>
    intro i k s hi hk
    obtain ⟨k, rfl⟩ : ∃ m, k = m + 1 := ⟨k - 1, by omega⟩
    rw [hortatorlaw9_BusySum.l0, if_neg (by omega), if_neg (by decide)]
  | succ d ih =>
    intro i k s hi hk
    obtain ⟨k, rfl⟩ : ∃ m, k = m + 1 := ⟨k - 1, by omega⟩
    rw [hortatorlaw9_BusySum.l0, if_pos (by omega), if_pos (by omega), w64 (x := (i : Int) + 1) (by omega) (by omega)]
    exact ih (i + 1) k _ (by omega) (by omega)
theorem BusySum (l0 : List S31) (u0 : ∀ x ∈ l0, I64 x.f0 ∧ I64 x.f1 ∧ I64 x.f2) : ∃ k, hortatorlaw9_BusySum.f k l0 = some true := by
  refine ⟨K, ?_⟩
  unfold hortatorlaw9_BusySum.f
  rw [b9, Option.bind_some, if_pos rfl, loads_f, Option.bind_some]
  have l10 := len10 l0
  generalize l0.take 10 = l at *
  rw [time_f _ (by decide), Option.bind_some]
  cases h : (timeV (lds l)).2
  · exact sum_no l10 _ l.length 0 K 0 (by omega) (by have := pK; omega)
  · exact sum_l0 (timeV_ok h).1 (by rw [← h]) l.length 0 K 0 (by omega) (by have := pK; omega) (by rw [List.drop_zero]; omega) (by omega)
end Go.Proofs.YtddepomgaeadpaaGreatDoor.Pure
