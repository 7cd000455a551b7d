/- DemandLess: the plain statement. -/
import Derived.Test.YtddepomgaeadpaaGreatDoorPu0
import Derived.Test.YtddepomgaeadpaaGreatDoorRefA0
import Derived.Test.YtddepomgaeadpaaGreatDoorPAllx21
namespace Go.Proofs.YtddepomgaeadpaaGreatDoor.Pure
open Go.RowKit Go.Proofs.YtddepomgaeadpaaGreatDoorW.PrintWords Go.Proofs.YtddepomgaeadpaaGreatDoorW.PrintMore Go.Proofs.YtddepomgaeadpaaGreatDoor.LoadMath Go.Proofs.YtddepomgaeadpaaGreatDoor.PAll Go.Proofs.YtddepomgaeadpaaGreatDoor.On
set_option linter.unusedVariables false
theorem fit_part {l m r : List Ld} (h : Fit (l ++ m ++ r)) : Fit (l ++ r) := by
  have hO := h.2.1
  have h1 := h.1
  simp only [List.length_append] at h1
  refine fit_of_le h ⟨by simp only [List.length_append]; omega, (Ok.left (Ok.left hO)).append hO.right⟩ (fun s hs => ?_) (fun s hs => ?_)
  · have := asked_nonneg (Ok.right (Ok.left hO)) (show 0 ≤ s by omega)
    rw [asked_append, asked_append, asked_append]; omega
  · have := bound_nonneg (Ok.right (Ok.left hO)) s
    rw [bound_append, bound_append, bound_append]; omega
theorem c3 (x : Int) : 0 ≤ bits .and .i64 x 3 ∧ bits .and .i64 x 3 ≤ 3 := band_range x 3 (by omega)
theorem rd_set {l : List S31} {i : Nat} (hi : i < l.length) (x : S31) : rd_T31 (l.set i x) (i : Int) = x := by
  rw [rd_nat, List.getD_eq_getElem?_getD, List.getElem?_set_self hi]; rfl
theorem less_j0 {l : List S31} (hl : l.length ≤ 10) (h0 : 0 < l.length) (hF : Fit (lds l)) {at_ : Int} (ha : 0 ≤ at_) (c d t : Int) {k : Nat} (hk : 500001 < k) : hortatorlaw9_DemandLess.j0 k l at_ c d t false = some true := by
  obtain ⟨k, rfl⟩ : ∃ m, k = m + 1 := ⟨k - 1, by omega⟩
  rw [hortatorlaw9_DemandLess.j0, if_neg (by decide), if_neg (by omega), Int.tmod_eq_emod_of_nonneg ha]
  have r2 := Int.emod_nonneg at_ (show (l.length : Int) ≠ 0 by omega)
  have r3 := Int.emod_lt_of_pos at_ (show 0 < (l.length : Int) by omega)
  obtain ⟨i, hi⟩ : ∃ i : Nat, at_ % (l.length : Int) = (i : Int) := ⟨(at_ % (l.length : Int)).toNat, by omega⟩
  rw [hi] at r2 r3 ⊢
  have hlt : i < l.length := by omega
  rw [if_pos (by omega), if_pos (by omega), Option.bind_some, if_pos (by simp only [List.length_nil, List.length_take]; omega), Option.bind_some, w64 (x := (i : Int) + 1) (by omega) (by omega), if_pos (by omega), if_pos (by omega), Option.bind_some, List.nil_append, Int.toNat_natCast, show ((i : Int) + 1).toNat = i + 1 by omega, if_pos (by simp only [List.length_take, List.length_drop]; omega), loads_f, List.take_of_length_le hl, Option.bind_some, if_pos (by omega), Option.bind_some, Option.bind_some, Option.bind_some]
  have hlen2 : ∀ x, i < (l.set i x).length := fun x => by rw [List.length_set]; exact hlt
  rw [rd_set hlt, rd_set (hlen2 _), List.set_set, List.set_set, rd_set hlt, rd_nat]
  have hx : ok (ld (l.getD i z31)) := ok_getD hF.2.1 hlt
  have hd := getD_drop (l := l) (k := i) hlt
  have hsplit : l = l.take i ++ (l.getD i z31 :: l.drop (i + 1)) := by rw [← hd, List.take_append_drop]
  have hF2 : Fit (lds (l.take i) ++ ld (l.getD i z31) :: lds (l.drop (i + 1))) := by rw [← lds_cons, ← lds_append, ← hsplit]; exact hF
  have f1 : fitsV (lds (l.take i ++ l.drop (i + 1))) = true := by
    rw [lds_append]
    refine fitsV_iff.mpr (fit_part (m := [ld (l.getD i z31)]) ?_)
    rw [List.append_assoc]; exact hF2
  rw [fits_f _ (by omega), f1, Option.bind_some, if_pos rfl]
  have g1 := c3 c
  have g2 := c3 d
  have g3 := c3 t
  have hx' := hx
  obtain ⟨h1, h2, h3, h4, h5⟩ := hx'
  simp only [ld] at h1 h2 h3 h4 h5
  rw [w64 (x := (l.getD i z31).f0 - bits .and .i64 c 3) (by omega) (by omega), w64 (x := (l.getD i z31).f2 + bits .and .i64 t 3) (by omega) (by omega), w64 (x := (l.getD i z31).f1 + bits .and .i64 d 3) (by omega) (by omega), mn_eq]
  generalize bits .and .i64 c 3 = c' at *
  generalize bits .and .i64 d 3 = d' at *
  generalize bits .and .i64 t 3 = t' at *
  have e := rload_f ⟨(l.getD i z31).f0 - c', min ((l.getD i z31).f1 + d') ((l.getD i z31).f2 + t'), (l.getD i z31).f2 + t'⟩
  simp only at e
  rw [e, Option.bind_some]
  cases ho : loadOk ⟨(l.getD i z31).f0 - c', min ((l.getD i z31).f1 + d') ((l.getD i z31).f2 + t'), (l.getD i z31).f2 + t'⟩
  · rw [if_neg (by decide)]
  · have hy := (loadOk_iff _).mp ho
    rw [if_pos rfl, fits_f _ (by omega), Option.bind_some]
    congr 1
    refine fitsV_iff.mpr ?_
    rw [List.set_eq_take_append_cons_drop, if_pos hlt, lds_append, lds_cons]
    exact fit_less hF2 hy ⟨by simp only [ld]; omega, by simp only [ld]; omega, by simp only [ld]; omega⟩
theorem DemandLess (l0 : List S31) (u0 : ∀ x ∈ l0, I64 x.f0 ∧ I64 x.f1 ∧ I64 x.f2) (a1 : Int) (h1 : I64 a1) (a2 : Int) (h2 : I64 a2) (a3 : Int) (h3 : I64 a3) (a4 : Int) (h4 : I64 a4) : ∃ k, hortatorlaw9_DemandLess.f k l0 a1 a2 a3 a4 = some true := by
  refine ⟨K, ?_⟩
  unfold hortatorlaw9_DemandLess.f
  rw [b9, Option.bind_some, if_pos rfl, loads_f, Option.bind_some]
  have l10 := len10 l0
  generalize l0.take 10 = l at *
  have out : hortatorlaw9_DemandLess.j0 K l a1 a2 a3 a4 true = some true := rfl
  rw [fits_f _ (by decide), Option.bind_some, out]
  by_cases c : fitsV (lds l) = true
  · rw [if_pos c]
    by_cases e : (l.length : Int) = 0
    · rw [if_pos e]
    · rw [if_neg e]
      by_cases n : a1 < 0
      · rw [decide_eq_true n]; exact out
      · rw [decide_eq_false n]; exact less_j0 l10 (by omega) (fitsV_iff.mp c) (by omega) _ _ _ (by decide)
  · rw [if_neg c]
end Go.Proofs.YtddepomgaeadpaaGreatDoor.Pure
