/- What the plain statements share. -/
import Derived.Test.YtddepomgaeadpaaGreatDoorPu0
import Derived.Test.YtddepomgaeadpaaGreatDoorMathS
namespace Go.Proofs.YtddepomgaeadpaaGreatDoor.Pure
open Go.RowKit Go.Proofs.YtddepomgaeadpaaGreatDoorW.PrintWords Go.Proofs.YtddepomgaeadpaaGreatDoorW.PrintMore Go.Proofs.YtddepomgaeadpaaGreatDoor.LoadMath Go.Proofs.YtddepomgaeadpaaGreatDoor.PAll Go.Proofs.YtddepomgaeadpaaGreatDoor.On
set_option linter.unusedVariables false
def In64 (l : List S31) : Prop := ∀ x ∈ l, I64 x.f0 ∧ I64 x.f1 ∧ I64 x.f2
theorem b255 (x : Int) : 0 ≤ bits .and .i64 x 255 ∧ bits .and .i64 x 255 ≤ 255 := band_range x 255 (by omega)
theorem b127 (x : Int) : 0 ≤ bits .and .i64 x 127 ∧ bits .and .i64 x 127 ≤ 127 := band_range x 127 (by omega)
theorem b63 (x : Int) : 0 ≤ bits .and .i64 x 63 ∧ bits .and .i64 x 63 ≤ 63 := band_range x 63 (by omega)
theorem b31 (x : Int) : 0 ≤ bits .and .i64 x 31 ∧ bits .and .i64 x 31 ≤ 31 := band_range x 31 (by omega)
theorem tmod_range (x : Int) {t : Int} (ht : 1 ≤ t) : -t < Int.tmod x t ∧ Int.tmod x t < t := by
  have h1 := Int.tmod_lt_of_pos x (show 0 < t by omega)
  have h2 := Int.tmod_lt_of_pos (-x) (show 0 < t by omega)
  rw [Int.neg_tmod] at h2
  omega
theorem fits_two {a b d e t : Int} (ha : 1 ≤ a) (ha2 : a ≤ 32) (hb : 1 ≤ b) (hb2 : b ≤ 32) (hd : 1 ≤ d) (he : 1 ≤ e) (hdt : d ≤ t) (het : e ≤ t) (ht : t ≤ 200) {k : Nat} (hk : 500000 ≤ k) :
    demand_Fits.f k [(⟨a, d, t⟩ : S31), (⟨b, e, t⟩ : S31)] = some (decide (a ≤ d ∧ b ≤ e ∧ a + b ≤ max d e)) := by
  rw [fits_f _ hk]
  have h := two_fit ha (by omega) hb (by omega) hd he hdt het ht
  congr 1
  have e0 : lds [(⟨a, d, t⟩ : S31), (⟨b, e, t⟩ : S31)] = [⟨a, d, t⟩, ⟨b, e, t⟩] := rfl
  rw [e0]
  by_cases c : a ≤ d ∧ b ≤ e ∧ a + b ≤ max d e
  · rw [decide_eq_true c, fitsV_iff.mpr (h.mpr c)]
  · rw [decide_eq_false c, fitsV_not (fun z => c (h.mp z))]
theorem fits10 (l : List S31) {k : Nat} (hk : 500000 ≤ k) : demand_Fits.f k l = some (fitsV (lds l)) := fits_f l hk
theorem top_zero {P : Int → Prop} {d r : Int} (h : IsTop P (min 0 d) r) : r = 0 := by
  rcases h.2.1 with z | ⟨z, _⟩
  · exact z
  · have := h.1; omega
theorem run_zero {P : Int → Prop} {d r : Int} (h : IsRun P (min (-1) d) r) : r = 0 := by
  rcases h.2.1 with z | z
  · exact z
  · have := h.1; omega
theorem top_le {P Q : Int → Prop} {h h' r r' : Int} (hP : IsTop P h r) (hQ : IsTop Q h' r') (hh : h ≤ h') (hPQ : ∀ c, P c → Q c) : r ≤ r' := by
  have := hQ.1
  rcases hP.2.1 with z | ⟨z, zp⟩
  · omega
  · apply Classical.byContradiction
    intro n
    exact hQ.2.2 r (by omega) (by omega) (hPQ _ zp)
theorem ok_same {c T : Int} (h1 : 1 ≤ c) (h2 : c ≤ 20000) (h3 : 1 ≤ T) (h4 : T ≤ 200) : ok ⟨c, T, T⟩ := ⟨h1, h2, h3, Int.le_refl _, h4⟩
theorem work_append (l m : List Ld) : work (l ++ m) = work l + work m := by simp [work, List.sum_append]
theorem work_one (x : Ld) : work [x] = x.c := by simp [work]
theorem same_append {T : Int} {l : List Ld} (h : Same T l) (c : Int) : Same T (l ++ [⟨c, T, T⟩]) := by
  intro x hx
  rcases List.mem_append.mp hx with z | z
  · exact h x z
  · simp at z; subst z; exact ⟨rfl, rfl⟩
theorem work_lds (c T : Int) : work (lds [(⟨c, T, T⟩ : S31)]) = c := work_one _
theorem ok_lds {c T : Int} (h1 : 1 ≤ c) (h2 : c ≤ 20000) (h3 : 1 ≤ T) (h4 : T ≤ 200) : Ok (lds [(⟨c, T, T⟩ : S31)]) := ok_one.mpr (ok_same h1 h2 h3 h4)
theorem b16 (x : Int) : 0 ≤ bits .and .i64 x 16383 ∧ bits .and .i64 x 16383 ≤ 16383 := band_range x 16383 (by omega)
theorem askAt_nonneg {x : Ld} (hx : ok x) (s : Int) : 0 ≤ askAt s x := by
  unfold askAt
  have := hx.1
  split <;> omega
theorem askAt_le {x : Ld} (hx : ok x) (s : Int) : askAt s x ≤ 20000 := by
  unfold askAt
  have := hx.2.1
  split <;> omega
/-- n loads of one tick in two hundred -/
def ones (n : Nat) : List S31 := List.replicate n ⟨1, 200, 200⟩
theorem ones_succ (n : Nat) : ones n ++ [(⟨1, 200, 200⟩ : S31)] = ones (n + 1) := by unfold ones; rw [List.replicate_succ']
theorem ones_same (n : Nat) : Same 200 (lds (ones n)) := by
  intro x hx
  obtain ⟨y, hy, rfl⟩ := List.mem_map.mp hx
  have := List.eq_of_mem_replicate hy
  subst this; exact ⟨rfl, rfl⟩
theorem ones_ok (n : Nat) : Ok (lds (ones n)) := by
  intro x hx
  obtain ⟨y, hy, rfl⟩ := List.mem_map.mp hx
  have := List.eq_of_mem_replicate hy
  subst this; exact ⟨by decide, by decide, by decide, by decide, by decide⟩
theorem ones_work (n : Nat) : work (lds (ones n)) = n := by
  induction n with
  | zero => rfl
  | succ n ih => rw [← ones_succ, lds_append, work_append, ih]; simp [lds, work, ld]
theorem ones_len (n : Nat) : (ones n).length = n := by simp [ones]
end Go.Proofs.YtddepomgaeadpaaGreatDoor.Pure
