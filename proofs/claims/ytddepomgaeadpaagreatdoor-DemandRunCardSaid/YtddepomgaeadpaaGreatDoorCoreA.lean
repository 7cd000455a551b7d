/- What busy.Asked, busy.Time, demand.Bound, demand.First, demand.Fits, most.Fit, most.Tight compute, as printed: the plain law's own values. -/
import Derived.Test.YtddepomgaeadpaaGreatDoorPAllx3
import Derived.Test.YtddepomgaeadpaaGreatDoorMath
namespace Go.Proofs.YtddepomgaeadpaaGreatDoor.PAll
open Go.RowKit Go.Proofs.YtddepomgaeadpaaGreatDoorW.PrintWords Go.Proofs.YtddepomgaeadpaaGreatDoor.LoadMath
set_option linter.unusedVariables false
def ld (x : S31) : Ld := ⟨x.f0, x.f1, x.f2⟩
def lds (l : List S31) : List Ld := l.map ld
theorem lds_length (l : List S31) : (lds l).length = l.length := by simp [lds]
theorem lds_nil : lds [] = [] := rfl
theorem lds_cons (x : S31) (l : List S31) : lds (x :: l) = ld x :: lds l := rfl
theorem w64 {x : Int} (h1 : -9223372036854775808 ≤ x) (h2 : x ≤ 9223372036854775807) : wrap64 x = x := by unfold wrap64; omega
theorem loadOk_iff (x : S31) : loadOk x = true ↔ ok (ld x) := by
  simp only [loadOk, ok, ld, Bool.and_eq_true, decide_eq_true_eq]
  omega
theorem all_iff (l : List S31) : l.all loadOk = true ↔ Ok (lds l) := by
  simp only [List.all_eq_true, Ok, lds, List.mem_map]
  constructor
  · rintro h x ⟨y, hy, rfl⟩; exact (loadOk_iff y).mp (h y hy)
  · intro h x hx; exact (loadOk_iff x).mpr (h _ ⟨x, hx, rfl⟩)
theorem may_iff (l : List S31) : (decide (l.length ≤ 24) && l.all loadOk) = true ↔ May (lds l) := by
  rw [Bool.and_eq_true, decide_eq_true_eq, all_iff]
  unfold May; rw [lds_length]
theorem may_f {l : List S31} (h : May (lds l)) : busy_may.f l = some true := by
  unfold busy_may.f; rw [(may_iff l).mpr h]
theorem may_not {l : List S31} (h : ¬ May (lds l)) : busy_may.f l = some false := by
  unfold busy_may.f
  cases e : (decide (l.length ≤ 24) && l.all loadOk)
  · rfl
  · exact absurd ((may_iff l).mp e) h
theorem up_f {s t : Int} (hs : 0 ≤ s) (hs2 : s ≤ 30000) (ht : 1 ≤ t) : tick_Up.f s t = some (rel s t) := by
  unfold tick_Up.f
  rw [if_neg (by omega), if_neg (by omega), Int.tmod_eq_emod_of_nonneg hs, Int.tdiv_eq_ediv_of_nonneg hs, ← up_rel hs (by omega)]
  have h1 := Int.ediv_nonneg hs (show 0 ≤ t by omega)
  have h2 := Int.ediv_le_self t hs
  rw [w64 (x := s / t) (by omega) (by omega), w64 (x := s / t + 1) (by omega) (by omega)]
  split <;> rfl
theorem down_f {s t : Int} (hs : 0 ≤ s) (hs2 : s ≤ 30000) (ht : 1 ≤ t) : tick_Down.f s t = some (s / t) := by
  unfold tick_Down.f
  rw [if_neg (by omega), if_neg (by omega), Int.tmod_eq_emod_of_nonneg hs, Int.tdiv_eq_ediv_of_nonneg hs]
  have h0 := Int.emod_nonneg s (show t ≠ 0 by omega)
  have h1 := Int.ediv_nonneg hs (show 0 ≤ t by omega)
  have h2 := Int.ediv_le_self t hs
  rw [if_neg (by omega), w64 (by omega) (by omega)]
theorem due_f {x : Ld} {s : Int} (hx : ok x) (hs : 0 ≤ s) (hs2 : s ≤ 20000) : demand_due.f x.c x.d x.t s = some (due1 s x) := by
  have hb := due1_le hx hs
  have h0 := due1_nonneg (s := s) hx
  obtain ⟨h1, h2, h3, h4, h5⟩ := hx
  unfold demand_due.f
  unfold due1 at *
  by_cases c : x.d > s
  · rw [if_pos c, if_pos c]
  · rw [if_neg c] at hb h0
    rw [if_neg c, if_neg c, w64 (by omega) (by omega), down_f (by omega) (by omega) (by omega), Option.bind_some]
    have q0 := Int.ediv_nonneg (show 0 ≤ s - x.d by omega) (show 0 ≤ x.t by omega)
    have q1 := Int.ediv_le_self x.t (show 0 ≤ s - x.d by omega)
    rw [w64 (x := (s - x.d) / x.t + 1) (by omega) (by omega), w64 (by omega) (by omega)]
theorem asked_nat_le {l : List Ld} (hl : Ok l) (hlen : l.length ≤ 24) {s : Int} (hs : 0 ≤ s) (hs2 : s ≤ 30000) : asked l s ≤ 14400000000 := by
  have h := asked_le hl hs
  have : (l.length : Int) * (20000 * s) ≤ 24 * (20000 * 30000) := Int.mul_le_mul (by omega) (by omega) (by omega) (by omega)
  omega
theorem bound_le {l : List Ld} (hl : Ok l) (hlen : l.length ≤ 24) {s : Int} (hs : 0 ≤ s) (hs2 : s ≤ 30000) : bound l s ≤ 14400000000 := Int.le_trans (bound_le_asked hl hs) (asked_nat_le hl hlen hs hs2)

/-! ### busy.Asked -/
theorem asked_l0 {l : List S31} {t : Int} (hO : Ok (lds l)) (hlen : l.length ≤ 24) (ht : 0 ≤ t) (ht2 : t ≤ 30000) (d : Nat) : ∀ (i : Nat) (n : Int) (k : Nat), i + d = l.length → d < k → 0 ≤ n → n + asked (lds (l.drop i)) t ≤ 14400000000 →
    busy_Asked.l0 k t n l (l.length : Int) (i : Int) = some (n + asked (lds (l.drop i)) t) := by
  induction d with
  | zero =>
    intro i n k hi hk hn hb
    obtain ⟨k, rfl⟩ : ∃ m, k = m + 1 := ⟨k - 1, by omega⟩
    simp only [busy_Asked.l0]
    rw [if_neg (by omega), List.drop_eq_nil_of_le (by omega)]
    simp [lds, asked]
  | succ d ih =>
    intro i n k hi hk hn hb
    obtain ⟨k, rfl⟩ : ∃ m, k = m + 1 := ⟨k - 1, by omega⟩
    have hlt : i < l.length := by omega
    have hd := getD_drop (l := l) (k := i) hlt
    have hmem : l.getD i z31 ∈ l := by rw [List.getD_eq_getElem?_getD, List.getElem?_eq_getElem hlt]; exact List.getElem_mem _
    have hx : ok (ld (l.getD i z31)) := hO _ (List.mem_map.mpr ⟨_, hmem, rfl⟩)
    have hO2 : Ok (lds (l.drop (i + 1))) := fun x hx => by
      obtain ⟨y, hy, rfl⟩ := List.mem_map.mp hx
      exact hO _ (List.mem_map.mpr ⟨y, List.mem_of_mem_drop hy, rfl⟩)
    rw [hd, lds_cons, asked_cons] at hb ⊢
    have a1 := ask1_nonneg hx ht
    have a2 := asked_nonneg hO2 ht
    have hr0 : rd_T31 l (i : Int) = l.getD i z31 := by simp [rd_T31]
    simp only [busy_Asked.l0]
    rw [if_pos (by omega), if_pos (by omega), if_pos (by omega), hr0]
    generalize l.getD i z31 = x at *
    have hxx := hx
    obtain ⟨h1, h2, h3, h4, h5⟩ := hx
    rw [up_f ht ht2 (show 1 ≤ x.f2 by simp only [ld] at h3 h4; omega), Option.bind_some]
    have e1 : x.f0 * rel t x.f2 = ask1 t (ld x) := rfl
    rw [e1, w64 (x := ask1 t (ld x)) (by omega) (by omega), w64 (x := n + ask1 t (ld x)) (by omega) (by omega), w64 (x := (i : Int) + 1) (by omega) (by omega)]
    have := ih (i + 1) (n + ask1 t (ld x)) k (by omega) (by omega) (by omega) (by omega)
    rw [show ((i : Int) + 1) = ((i + 1 : Nat) : Int) by omega, this]
    congr 1; omega
theorem asked_f {l : List S31} {t : Int} (hM : May (lds l)) (ht : 0 ≤ t) (ht2 : t ≤ 20000) {k : Nat} (hk : 40 ≤ k) : busy_Asked.f k l t = some (asked (lds l) t) := by
  unfold busy_Asked.f
  have hlen : l.length ≤ 24 := by have := hM.1; rwa [lds_length] at this
  rw [may_f hM, Option.bind_some, if_pos rfl, if_neg (by omega)]
  obtain ⟨k, rfl⟩ : ∃ m, k = m + 1 := ⟨k - 1, by omega⟩
  simp only [busy_Asked.j0]
  rw [if_neg (by simp; omega)]
  have hb := asked_nat_le hM.2 hM.1 ht (by omega)
  have := asked_l0 hM.2 hlen ht (by omega) l.length 0 0 k (by omega) (by omega) (by omega) (by rw [List.drop_zero]; omega)
  rw [List.drop_zero] at this
  simpa using this
/-! ### busy.Time -/
theorem time_l0 {l : List S31} (hM : May (lds l)) (hne : lds l ≠ []) (k : Nat) : ∀ t : Int, 1 ≤ t → (∀ s, 1 ≤ s → s < t → s < asked (lds l) s) → (20001 - t).toNat + 41 < k → busy_Time.l0 k l t = some (timeV (lds l)) := by
  induction k with
  | zero => intro t _ _ hk; omega
  | succ k ih =>
    intro t ht hs hk
    simp only [busy_Time.l0]
    by_cases c : t ≤ 20000
    · rw [if_pos c, asked_f hM (by omega) c (by omega), Option.bind_some]
      by_cases e : asked (lds l) t = t
      · rw [if_pos e, timeV_busy hM hne ⟨ht, c, by omega, hs⟩]
      · rw [if_neg e]
        have hgt : t < asked (lds l) t := by
          by_cases t1 : t = 1
          · have := asked_pos hM.2 hne ht; omega
          · have g := hs (t - 1) (by omega) (by omega)
            have := asked_mono hM.2 (show t - 1 ≤ t by omega); omega
        exact ih (asked (lds l) t) (by omega) (fun s s1 s2 => by
          by_cases c2 : s < t
          · exact hs s s1 c2
          · have := asked_mono hM.2 (show t ≤ s by omega); omega) (by omega)
    · rw [if_neg c, timeV_no hM hne (fun s s1 s2 => hs s s1 (by omega))]
theorem time_f (l : List S31) {k : Nat} (hk : 20100 ≤ k) : busy_Time.f k l = some (timeV (lds l)) := by
  unfold busy_Time.f
  by_cases hM : May (lds l)
  · rw [may_f hM, Option.bind_some, if_pos rfl]
    by_cases e : l = []
    · subst e; rw [if_pos (by rfl), lds_nil, timeV_nil]
    · have hl : 0 < l.length := List.length_pos_iff.mpr e
      rw [if_neg (by omega)]
      exact time_l0 hM (fun h => e (by simpa [lds] using h)) k 1 (by omega) (fun s s1 s2 => by omega) (by omega)
  · rw [may_not hM, Option.bind_some, if_neg (by decide), timeV_bad hM]

/-! ### demand.Bound -/
theorem bound_s {t : Int} (ht : 0 ≤ t) (ht2 : t ≤ 20000) : ∀ (l : List S31) (n : Int), Ok (lds l) → 0 ≤ n → n + bound (lds l) t ≤ 14400000000 → demand_Bound.s t l n = some (n + bound (lds l) t)
  | [], n, _, _, _ => by simp [demand_Bound.s, lds, bound]
  | x :: l, n, hO, hn, hb => by
    have hx : ok (ld x) := hO _ (by simp [lds])
    have hO2 : Ok (lds l) := fun y hy => hO y (by rw [lds_cons]; exact List.mem_cons_of_mem _ hy)
    have a1 := due1_nonneg (s := t) hx
    have a2 := bound_nonneg hO2 t
    rw [lds_cons, bound_cons] at hb ⊢
    rw [demand_Bound.s]
    have e1 : demand_due.f x.f0 x.f1 x.f2 t = some (due1 t (ld x)) := due_f (x := ld x) hx ht ht2
    rw [e1, Option.bind_some, w64 (by omega) (by omega), bound_s ht ht2 l _ hO2 (by omega) (by omega)]
    congr 1; omega
theorem bound_f {l : List S31} {t : Int} (hM : May (lds l)) (ht : 0 ≤ t) (ht2 : t ≤ 20000) : demand_Bound.f l t = some (bound (lds l) t) := by
  unfold demand_Bound.f
  have hlen := hM.1
  rw [lds_length] at hlen
  rw [if_pos ((all_iff l).mpr hM.2), if_pos hlen, if_neg (by omega), if_neg (by omega), bound_s ht ht2 l 0 hM.2 (by omega) (by have := bound_le hM.2 hM.1 ht (by omega); omega)]
  congr 1; omega
end Go.Proofs.YtddepomgaeadpaaGreatDoor.PAll
