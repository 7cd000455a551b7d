/- DemandFull: the plain statement. -/
import Derived.Test.YtddepomgaeadpaaGreatDoorPu
import Derived.Test.YtddepomgaeadpaaGreatDoorPAllx14
namespace Go.Proofs.YtddepomgaeadpaaGreatDoor.Pure
open Go.RowKit Go.Proofs.YtddepomgaeadpaaGreatDoorW.PrintWords Go.Proofs.YtddepomgaeadpaaGreatDoorW.PrintMore Go.Proofs.YtddepomgaeadpaaGreatDoor.LoadMath Go.Proofs.YtddepomgaeadpaaGreatDoor.PAll Go.Proofs.YtddepomgaeadpaaGreatDoor.On
set_option linter.unusedVariables false
theorem full_j2 {T : Int} (hT : 2 ≤ T) (hT2 : T ≤ 65) {l : List S31} (hl : l.length ≤ 10) (hO : Ok (lds l)) (hS : Same T (lds l)) (hw : work (lds l) = T) {k : Nat} (hk : 500000 < k) : hortatorlaw9_DemandFull.j2 k T l = some true := by
  obtain ⟨k, rfl⟩ : ∃ m, k = m + 1 := ⟨k - 1, by omega⟩
  have hne : lds l ≠ [] := by intro z; rw [z] at hw; simp [work] at hw; omega
  have hM : May (lds l) := ⟨by rw [lds_length]; omega, hO⟩
  have e1 := timeV_busy hM hne (same_busy hO hne hS (by omega) (by omega))
  rw [hw] at e1
  have e2 : fitsV (lds l) = true := fitsV_iff.mpr (same_fit hM hS (by omega) (by omega) (by omega))
  have e3 : bound (lds l) T = T := by
    rw [bound_same hS, if_neg (by omega), hw, Int.sub_self, Int.zero_ediv]; omega
  have e4 : fitsV (lds l ++ lds [(⟨1, T, T⟩ : S31)]) = false := by
    refine fitsV_not (not_fit_of_no (by simp [lds]) (same_no (T := T) (same_append hS 1) (by omega) ?_))
    rw [work_append, hw]; have := work_lds 1 T; omega
  rw [hortatorlaw9_DemandFull.j2, time_f _ (by omega), Option.bind_some, loads_f, List.take_of_length_le hl, Option.bind_some, if_pos (by omega), fits_f _ (by omega), Option.bind_some, e2, if_pos rfl, e1, if_pos rfl, if_pos rfl, bound_f hM (by omega) (by omega), e3, Option.bind_some, if_pos rfl, fits_f _ (by omega), lds_append, e4]
  rfl
theorem full_j1 {T x : Int} (hT : 2 ≤ T) (hT2 : T ≤ 65) {l : List S31} (hl : l.length ≤ 9) (hO : Ok (lds l)) (hS : Same T (lds l)) (hx : 0 ≤ x) (hw : work (lds l) + x = T) (hx2 : x ≤ 65) {k : Nat} (hk : 500001 < k) : hortatorlaw9_DemandFull.j1 k T x l = some true := by
  obtain ⟨k, rfl⟩ : ∃ m, k = m + 1 := ⟨k - 1, by omega⟩
  rw [hortatorlaw9_DemandFull.j1]
  by_cases c : x > 0
  · rw [if_pos c, if_pos (by omega)]
    refine full_j2 hT hT2 (by simp; omega) ?_ ?_ ?_ (by omega)
    · rw [lds_append]; exact hO.append (ok_lds (by omega) (by omega) (by omega) (by omega))
    · rw [lds_append]; exact same_append hS x
    · rw [lds_append, work_append, work_lds]; exact hw
  · rw [if_neg c]
    exact full_j2 hT hT2 (by omega) hO hS (by omega) (by omega)
theorem full_l0 {T : Int} (hT : 2 ≤ T) (hT2 : T ≤ 65) (l0 : List Int) (n : Nat) : ∀ (k i : Nat) (x : Int) (l : List S31), i + n = 9 → l.length = i → Ok (lds l) → Same T (lds l) → 0 ≤ x → work (lds l) + x = T → x ≤ 65 → 500003 + n < k → hortatorlaw9_DemandFull.l0 k l0 T x l (i : Int) = some true := by
  induction n with
  | zero =>
    intro k i x l h1 h2 hO hS hx hw hx2 hk
    obtain ⟨k, rfl⟩ : ∃ m, k = m + 1 := ⟨k - 1, by omega⟩
    rw [hortatorlaw9_DemandFull.l0]
    have z := full_j1 hT hT2 (by omega) hO hS hx hw hx2 (k := k) (by omega)
    rw [z, if_neg (c := (i : Int) < 9) (by omega)]; split <;> rfl
  | succ n ih =>
    intro k i x l h1 h2 hO hS hx hw hx2 hk
    obtain ⟨k, rfl⟩ : ∃ m, k = m + 1 := ⟨k - 1, by omega⟩
    rw [hortatorlaw9_DemandFull.l0]
    have z := full_j1 hT hT2 (by omega) hO hS hx hw hx2 (k := k) (by omega)
    rw [z]
    by_cases c1 : (i : Int) < (l0.length : Int)
    · rw [if_pos c1, if_pos (by omega)]
      by_cases c2 : x > 1
      · have g := b63 (rd l0 (i : Int))
        have q1 := Int.tmod_nonneg x g.1
        have q2 := Int.tmod_lt_of_pos (bits .and .i64 (rd l0 (i : Int)) 63) (show 0 < x by omega)
        generalize Int.tmod (bits .and .i64 (rd l0 (i : Int)) 63) x = y at *
        rw [if_pos c2, if_pos (by omega), if_neg (by omega), if_pos (by omega), w64 (x := 1 + y) (by omega) (by omega), w64 (x := x - (1 + y)) (by omega) (by omega), w64 (x := (i : Int) + 1) (by omega) (by omega)]
        refine ih k (i + 1) (x - (1 + y)) _ (by omega) (by simp; omega) ?_ ?_ (by omega) ?_ (by omega) (by omega)
        · rw [lds_append]; exact hO.append (ok_lds (by omega) (by omega) (by omega) (by omega))
        · rw [lds_append]; exact same_append hS _
        · rw [lds_append, work_append]
          have : work (lds [(⟨1 + y, T, T⟩ : S31)]) = 1 + y := work_one _
          omega
      · rw [if_neg c2]
    · rw [if_neg c1]
theorem DemandFull (l0 : List Int) (u0 : ∀ x ∈ l0, I64 x) (a1 : Int) (h1 : I64 a1) : ∃ k, hortatorlaw9_DemandFull.f k l0 a1 = some true := by
  refine ⟨K, ?_⟩
  unfold hortatorlaw9_DemandFull.f
  have g := b63 a1
  rw [b9, Option.bind_some, if_pos rfl, w64 (x := 2 + bits .and .i64 a1 63) (by omega) (by omega)]
  generalize bits .and .i64 a1 63 = x at *
  exact full_l0 (by omega) (by omega) l0 9 K 0 (2 + x) [] (by omega) rfl (fun x hx => by simp [lds] at hx) (fun x hx => by simp [lds] at hx) (by omega) (by simp [lds, work]) (by omega) (by decide)
end Go.Proofs.YtddepomgaeadpaaGreatDoor.Pure
