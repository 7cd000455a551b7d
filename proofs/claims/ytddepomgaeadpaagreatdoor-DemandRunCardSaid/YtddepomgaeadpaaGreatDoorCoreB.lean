/- demand.First, demand.Fits, most.Fit, most.Tight as printed: the plain law's own values. -/
import Derived.Test.YtddepomgaeadpaaGreatDoorCoreA
import Derived.Test.YtddepomgaeadpaaGreatDoorPAllx4
import Derived.KernelRfl
namespace Go.Proofs.YtddepomgaeadpaaGreatDoor.PAll
open Go.RowKit Go.Proofs.YtddepomgaeadpaaGreatDoorW.PrintWords Go.Proofs.YtddepomgaeadpaaGreatDoorW.PrintMore Go.Proofs.YtddepomgaeadpaaGreatDoor.LoadMath
set_option linter.unusedVariables false
theorem rd_nat (l : List S31) (i : Nat) : rd_T31 l (i : Int) = l.getD i z31 := by simp [rd_T31]
theorem mem_getD {l : List S31} {i : Nat} (h : i < l.length) : l.getD i z31 ∈ l := by rw [List.getD_eq_getElem?_getD, List.getElem?_eq_getElem h]; exact List.getElem_mem _
theorem ok_getD {l : List S31} (hO : Ok (lds l)) {i : Nat} (h : i < l.length) : ok (ld (l.getD i z31)) := hO _ (List.mem_map.mpr ⟨_, mem_getD h, rfl⟩)
/-- the state of demand.First: 'first' is past the end, or a time at which there is too much; ahead of it the first i loads' points are well -/
structure FS (L : List Ld) (e first : Int) : Prop where
  pos : 0 < first
  le : first ≤ e + 1
  bad : first = e + 1 ∨ first < bound L first
def Seen (L : List Ld) (first : Int) (x : Ld) : Prop := ∀ s, s < first → x.d ≤ s → (s - x.d) % x.t = 0 → bound L s ≤ s
theorem Seen.less {L : List Ld} {f f' : Int} {x : Ld} (h : Seen L f x) (hf : f' ≤ f) : Seen L f' x := fun s h1 h2 h3 => h s (by omega) h2 h3
/-- behind all loads -/
theorem first_end {L : List Ld} {e first : Int} (hL : Ok L) (ht : timeV L = (e, true)) (he : 0 ≤ e) (h : FS L e first) (hs : ∀ x ∈ L, Seen L first x) : (if first > e then (0, false) else (first, true)) = firstV L := by
  have hmin : ∀ s, 0 ≤ s → s < first → bound L s ≤ s := by
    intro s s0 s1
    apply Classical.byContradiction
    intro hn
    rcases bad_or L s with ⟨s', hb⟩ | hg
    · obtain ⟨x, hx, hd, hm⟩ := bad_point hL hb
      have := hs x hx s' (by have := hb.2.1; omega) hd hm
      have := hb.2.2.1; omega
    · exact hn (hg s s0 (Int.le_refl _))
  have h1 : (timeV L).1 = e := by rw [ht]
  have h2 : (timeV L).2 = true := by rw [ht]
  by_cases c : first > e
  · rw [if_pos c, firstV_good h2 (by rw [h1]; intro s s0 s1; exact hmin s s0 (by omega))]
  · rw [if_neg c]
    have hb : first < bound L first := by rcases h.bad with hb | hb <;> omega
    rw [firstV_bad h2 (s := first) ⟨by have := h.pos; omega, by rw [h1]; omega, hb, fun r r0 r1 => hmin r r0 r1⟩]
set_option maxRecDepth 100000 in
theorem first_l {l : List S31} {e : Int} (hM : May (lds l)) (ht : timeV (lds l) = (e, true)) (he : 0 ≤ e) (he2 : e ≤ 20000) (k : Nat) :
    (∀ (i : Nat) (first : Int), i ≤ l.length → FS (lds l) e first → (∀ j, j < i → Seen (lds l) first (ld (l.getD j z31))) → (l.length - i) * 20300 < k → demand_First.l0 k l e first l (l.length : Int) (i : Int) = some (firstV (lds l))) ∧
    (∀ (i : Nat) (first t : Int), i < l.length → FS (lds l) e first → (∀ j, j < i → Seen (lds l) first (ld (l.getD j z31))) →
      1 ≤ t → (l.getD i z31).f1 ≤ t → (t - (l.getD i z31).f1) % (l.getD i z31).f2 = 0 → t ≤ 20201 → (∀ s, s < first → s < t → (l.getD i z31).f1 ≤ s → (s - (l.getD i z31).f1) % (l.getD i z31).f2 = 0 → bound (lds l) s ≤ s) →
      (l.length - i - 1) * 20300 + (20250 - t).toNat < k → demand_First.l1 k l e first t l (l.length : Int) (i : Int) (l.getD i z31).f0 (l.getD i z31).f1 (l.getD i z31).f2 = some (firstV (lds l))) := by
  have hlen : l.length ≤ 24 := by have := hM.1; rwa [lds_length] at this
  induction k with
  | zero => exact ⟨fun _ _ _ _ _ hk => by omega, fun _ _ _ _ _ _ _ _ _ _ _ hk => by omega⟩
  | succ k ih =>
    constructor
    · intro i first hi hF hs hk
      simp only [demand_First.l0]
      by_cases c : i < l.length
      · have hx := ok_getD hM.2 c
        obtain ⟨h1, h2, h3, h4, h5⟩ := hx
        simp only [ld] at h1 h2 h3 h4 h5
        rw [if_pos (by omega), if_pos (by omega), if_pos (by omega), rd_nat]
        exact ih.2 i first _ c hF hs h3 (Int.le_refl _) (by simp) (by omega) (fun s s1 s2 s3 s4 => by omega) (by
          have e2 : (l.length - i) * 20300 = (l.length - i - 1) * 20300 + 20300 := by
            rw [show l.length - i = (l.length - i - 1) + 1 by omega, Nat.add_mul]; omega
          omega)
      · rw [if_neg (by omega)]
        have : i = l.length := by omega
        subst this
        rw [← first_end hM.2 ht he hF (fun x hx => by
          obtain ⟨y, hy, rfl⟩ := List.mem_map.mp hx
          obtain ⟨j, hj, rfl⟩ := List.getElem_of_mem hy
          have := hs j hj
          rwa [List.getD_eq_getElem?_getD, List.getElem?_eq_getElem hj] at this)]
        split <;> rfl
    · intro i first t hi hF hs ht1 hd hm ht2 hseen hk
      have hx := ok_getD hM.2 hi
      have hxx := hx
      obtain ⟨h1, h2, h3, h4, h5⟩ := hx
      simp only [ld] at h1 h2 h3 h4 h5
      have hpos := hF.pos
      have hle := hF.le
      simp only [demand_First.l1]
      by_cases c : t < first
      · rw [if_pos c, bound_f hM (by omega) (by omega), Option.bind_some, w64 (by omega) (by omega)]
        have hm2 : (t + (l.getD i z31).f2 - (l.getD i z31).f1) % (l.getD i z31).f2 = 0 := by
          rw [show t + (l.getD i z31).f2 - (l.getD i z31).f1 = (t - (l.getD i z31).f1) + (l.getD i z31).f2 by omega, Int.add_emod_right]; exact hm
        have hstep : ∀ s, t < s → s < t + (l.getD i z31).f2 → (s - (l.getD i z31).f1) % (l.getD i z31).f2 ≠ 0 := by
          intro s s1 s2 s3
          have g1 := Int.dvd_of_emod_eq_zero hm
          have g2 := Int.dvd_of_emod_eq_zero s3
          have g3 := Int.dvd_sub g2 g1
          rw [show s - (l.getD i z31).f1 - (t - (l.getD i z31).f1) = s - t by omega] at g3
          have := Int.le_of_dvd (by omega) g3
          omega
        by_cases cb : bound (lds l) t > t
        · rw [if_pos cb]
          refine ih.2 i t (t + (l.getD i z31).f2) hi ⟨by omega, by omega, Or.inr cb⟩ (fun j hj => (hs j hj).less (by omega)) (by omega) (by omega) hm2 (by omega) (fun s s1 s2 s3 s4 => hseen s (by omega) s1 s3 s4) (by omega)
        · rw [if_neg cb]
          refine ih.2 i first (t + (l.getD i z31).f2) hi hF hs (by omega) (by omega) hm2 (by omega) (fun s s1 s2 s3 s4 => ?_) (by omega)
          rcases Int.lt_trichotomy s t with g | g | g
          · exact hseen s s1 g s3 s4
          · subst g; omega
          · exact absurd s4 (hstep s g s2)
      · rw [if_neg c, w64 (by omega) (by omega)]
        have := ih.1 (i + 1) first (by omega) hF (fun j hj => by
          by_cases cj : j = i
          · subst cj
            exact fun s s1 s2 s3 => hseen s s1 (by omega) s2 s3
          · exact hs j (by omega)) (by
            have : l.length - (i + 1) = l.length - i - 1 := by omega
            rw [this]; omega)
        rw [show ((i : Int) + 1) = ((i + 1 : Nat) : Int) by omega]
        exact this
theorem time_range {L : List Ld} {e : Int} (h : timeV L = (e, true)) : 0 ≤ e ∧ e ≤ 20000 := by
  have := timeV_ok (l := L) (by rw [h])
  rw [h] at this
  rcases this.2 with ⟨_, h2⟩ | ⟨_, h2⟩
  · simp only at h2; omega
  · exact ⟨by have := h2.1; omega, h2.2.1⟩
set_option maxRecDepth 100000 in
theorem first_f (l : List S31) {k : Nat} (hk : 500000 ≤ k) : demand_First.f k l = some (firstV (lds l)) := by
  unfold demand_First.f
  rw [time_f l (by omega), Option.bind_some]
  cases h : (timeV (lds l)).2
  · rw [if_neg (by decide), firstV_no h]
  · rw [if_pos rfl]
    have ht : timeV (lds l) = ((timeV (lds l)).1, true) := by rw [← h]
    obtain ⟨h1, h2⟩ := time_range ht
    have hM := (timeV_ok h).1
    have hlen : l.length ≤ 24 := by have := hM.1; rwa [lds_length] at this
    rw [w64 (by omega) (by omega)]
    exact (first_l hM ht h1 h2 k).1 0 _ (by omega) ⟨by omega, by omega, Or.inl rfl⟩ (fun j hj => by omega) (by omega)
theorem fits_f (l : List S31) {k : Nat} (hk : 500000 ≤ k) : demand_Fits.f k l = some (fitsV (lds l)) := by
  unfold demand_Fits.f fitsV
  rw [time_f l (by omega), Option.bind_some, first_f l hk, Option.bind_some]
  cases (timeV (lds l)).2
  · rw [if_neg (by decide)]; rfl
  · rw [if_pos rfl]; rfl

/-! ### most.Fit, most.Tight -/
theorem mn_eq (a b : Int) : mn a b = min a b := by unfold mn; omega
theorem loads_f (l : List S31) : hortatorlaw9_Loads.f l = some (l.take 10) := by
  unfold hortatorlaw9_Loads.f
  rw [mn_eq]
  have h1 : (0 : Int) ≤ min (l.length : Int) 10 := by omega
  rw [if_pos h1, if_pos (by omega), Option.bind_some]
  have h2 : (min (l.length : Int) 10).toNat = min l.length 10 := by omega
  have h3 : l.take (min l.length 10) = l.take 10 := by
    by_cases c : l.length ≤ 10
    · rw [List.take_of_length_le (by omega), List.take_of_length_le c]
    · rw [show min l.length 10 = 10 by omega]
  rw [h2, h3, if_pos (by simp only [List.length_nil, List.length_take]; omega), List.nil_append]
theorem begun9_100 : hortatorlaw9_begun.f 100 = some true := by kernel_rfl
theorem begun9_f {k : Nat} (hk : 100 ≤ k) : hortatorlaw9_begun.f k = some true := by
  have h : ∀ d, hortatorlaw9_begun.f (100 + d) = some true := by
    intro d
    induction d with
    | zero => exact begun9_100
    | succ d ih => exact hortatorlaw9_begun.mono _ _ ih
  have := h (k - 100)
  rwa [show 100 + (k - 100) = k by omega] at this
end Go.Proofs.YtddepomgaeadpaaGreatDoor.PAll
