/- Loads of one time, one load, two, one more, one less. -/
import Derived.Test.YtddepomgaeadpaaGreatDoorMath
namespace Go.Proofs.YtddepomgaeadpaaGreatDoor.LoadMath
set_option linter.unusedVariables false
/-- a part of what fits fits -/
theorem fit_part {l m r : List Ld} (h : Fit (l ++ m ++ r)) : Fit (l ++ r) := by
  have hO := h.2.1
  have h1 := h.1
  simp only [List.length_append] at h1
  refine fit_of_le h ⟨by simp only [List.length_append]; omega, (Ok.left (Ok.left hO)).append hO.right⟩ (fun s hs => ?_) (fun s hs => ?_)
  · have := asked_nonneg (Ok.right (Ok.left hO)) (show 0 ≤ s by omega)
    rw [asked_append, asked_append, asked_append]; omega
  · have := bound_nonneg (Ok.right (Ok.left hO)) s
    rw [bound_append, bound_append, bound_append]; omega
theorem Fit.left {l m : List Ld} (h : Fit (l ++ m)) : Fit l := by
  have := fit_part (l := l) (m := m) (r := []) (by rwa [List.append_nil])
  rwa [List.append_nil] at this

def Same (T : Int) (l : List Ld) : Prop := ∀ x ∈ l, x.d = T ∧ x.t = T
def work (l : List Ld) : Int := (l.map (·.c)).sum
theorem asked_same {T : Int} {l : List Ld} (h : Same T l) (s : Int) : asked l s = work l * rel s T := by
  induction l with
  | nil => simp [asked, work]
  | cons a t ih =>
    rw [asked_cons, ih (fun x hx => h x (by simp [hx]))]
    simp only [work, List.map_cons, List.sum_cons, Int.add_mul, ask1, (h a (by simp)).2]
theorem bound_same {T : Int} {l : List Ld} (h : Same T l) (s : Int) : bound l s = if T > s then 0 else work l * ((s - T) / T + 1) := by
  induction l with
  | nil => simp [bound, work]
  | cons a t ih =>
    rw [bound_cons, ih (fun x hx => h x (by simp [hx]))]
    have := h a (by simp)
    simp only [work, List.map_cons, List.sum_cons, Int.add_mul, due1, this.1, this.2]
    split <;> omega
theorem rel_one {s t : Int} (h1 : 1 ≤ s) (h2 : s ≤ t) : rel s t = 1 := by
  have a := rel_pos (t := t) (by omega) h1
  obtain ⟨b1, b2⟩ := rel_spec (s := s) (t := t) (by omega)
  have e3 : t * rel s t < t * 2 := by rw [Int.mul_comm t]; omega
  have := Int.lt_of_mul_lt_mul_left e3 (by omega)
  omega
theorem work_pos {l : List Ld} (hl : Ok l) (hne : l ≠ []) : 1 ≤ work l := by
  cases l with
  | nil => exact absurd rfl hne
  | cons a t =>
    have h1 := (hl a (by simp)).1
    have h2 : 0 ≤ (t.map (·.c)).sum := sum_nonneg _ _ (fun x hx => by have := (hl x (by simp [hx])).1; omega)
    simp only [work, List.map_cons, List.sum_cons]; omega
theorem work_le {l : List Ld} (hl : Ok l) {s : Int} (hs : 1 ≤ s) : work l ≤ asked l s := sum_le _ _ l (fun x hx => ask1_ge (hl x hx) hs)
theorem same_busy {T : Int} {l : List Ld} (hl : Ok l) (hne : l ≠ []) (h : Same T l) (hT : T ≤ 200) (hw : work l ≤ T) : IsBusy l (work l) := by
  have h1 := work_pos hl hne
  refine ⟨h1, by omega, ?_, fun s s1 s2 => ?_⟩
  · rw [asked_same h, rel_one h1 hw]; omega
  · have := work_le hl s1; omega
theorem same_no {T : Int} {l : List Ld} (h : Same T l) (hT : 1 ≤ T) (hw : T < work l) : NoBusy l := by
  intro s s1 s2
  rw [asked_same h]
  obtain ⟨b1, b2⟩ := rel_spec (s := s) (t := T) (by omega)
  have r := rel_pos (t := T) (by omega) s1
  have : (T + 1) * rel s T ≤ work l * rel s T := Int.mul_le_mul_of_nonneg_right (by omega) (by omega)
  rw [Int.add_mul, Int.mul_comm T] at this
  omega
theorem same_fit {T : Int} {l : List Ld} (hl : May l) (h : Same T l) (hT1 : 1 ≤ T) (hT : T ≤ 200) (hw : work l ≤ T) : Fit l := by
  refine ⟨hl.1, hl.2, ?_, fun s hs => ?_⟩
  · by_cases e : l = []
    · exact Or.inl e
    · exact Or.inr ⟨_, same_busy hl.2 e h hT hw⟩
  · rw [bound_same h]
    by_cases c : T > s
    · rw [if_pos c]; exact hs
    · rw [if_neg c]
      have q := Int.ediv_nonneg (show 0 ≤ s - T by omega) (show 0 ≤ T by omega)
      have e1 := Int.mul_ediv_add_emod (s - T) T
      have e2 := Int.emod_nonneg (s - T) (show T ≠ 0 by omega)
      have := Int.mul_le_mul_of_nonneg_right hw (show 0 ≤ (s - T) / T + 1 by omega)
      rw [Int.mul_add T] at this
      omega
theorem not_fit_of_no {l : List Ld} (hne : l ≠ []) (h : NoBusy l) : ¬ Fit l := by
  rintro ⟨_, _, h3, _⟩
  rcases h3 with h3 | ⟨L, h1, h2, h3, _⟩
  · exact hne h3
  · have := h L h1 h2; omega
theorem not_fit_of_bad {l : List Ld} (h : ¬ May l) : ¬ Fit l := fun hf => h ⟨hf.1, hf.2.1⟩

/-- one load -/
theorem one_time {c t : Int} (hc : 1 ≤ c) (hc2 : c ≤ 20000) (ht : 1 ≤ t) (ht2 : t ≤ 200) : timeV [⟨c, t, t⟩] = if c ≤ t then (c, true) else (0, false) := by
  have hO : Ok [⟨c, t, t⟩] := ok_one.mpr ⟨hc, hc2, ht, Int.le_refl _, ht2⟩
  have hS : Same t [⟨c, t, t⟩] := by intro x hx; simp at hx; subst hx; exact ⟨rfl, rfl⟩
  have hw : work [⟨c, t, t⟩] = c := by simp [work]
  have hM : May [⟨c, t, t⟩] := ⟨by simp, hO⟩
  by_cases h : c ≤ t
  · rw [if_pos h, timeV_busy hM (by simp) (same_busy hO (by simp) hS ht2 (by rw [hw]; exact h)), hw]
  · rw [if_neg h, timeV_no hM (by simp) (same_no hS ht (by rw [hw]; omega))]
theorem one_fit {c d t : Int} (hc : 1 ≤ c) (hd : c ≤ d) (ht : d ≤ t) (ht2 : t ≤ 200) : Fit [⟨c, d, t⟩] := by
  have hO : Ok [⟨c, d, t⟩] := ok_one.mpr ⟨hc, by show c ≤ 20000; omega, by show 1 ≤ d; omega, ht, ht2⟩
  refine ⟨by simp, hO, Or.inr ?_, fun s hs => ?_⟩
  · refine ⟨c, hc, by omega, ?_, fun s s1 s2 => ?_⟩
    · rw [asked_one]; show c * rel c t ≤ c; rw [rel_one hc (by omega)]; omega
    · rw [asked_one]
      have := ask1_ge (x := ⟨c, d, t⟩) (hO _ (by simp)) s1
      simp only at this; omega
  · rw [bound_one]
    simp only [due1]
    by_cases e : d > s
    · rw [if_pos e]; exact hs
    · rw [if_neg e]
      have q := Int.ediv_nonneg (show 0 ≤ s - d by omega) (show 0 ≤ t by omega)
      have e1 := Int.mul_ediv_add_emod (s - d) t
      have e2 := Int.emod_nonneg (s - d) (show t ≠ 0 by omega)
      have := Int.mul_le_mul_of_nonneg_right (show c ≤ t by omega) q
      rw [Int.mul_add]
      omega
theorem due1_short {s : Int} {x : Ld} (hx : ok x) (hs : s ≤ x.t) : due1 s x = if x.d ≤ s then x.c else 0 := by
  obtain ⟨h1, h2, h3, h4, h5⟩ := hx
  unfold due1
  by_cases e : x.d > s
  · rw [if_pos e, if_neg (by omega)]
  · rw [if_neg e, if_pos (by omega), Int.ediv_eq_zero_of_lt (by omega) (by omega)]; omega
theorem two_fit {a b d e t : Int} (ha : 1 ≤ a) (ha2 : a ≤ 20000) (hb : 1 ≤ b) (hb2 : b ≤ 20000) (hd : 1 ≤ d) (he : 1 ≤ e) (hdt : d ≤ t) (het : e ≤ t) (ht : t ≤ 200) :
    Fit [⟨a, d, t⟩, ⟨b, e, t⟩] ↔ (a ≤ d ∧ b ≤ e ∧ a + b ≤ max d e) := by
  have oa : ok ⟨a, d, t⟩ := ⟨ha, ha2, hd, hdt, ht⟩
  have ob : ok ⟨b, e, t⟩ := ⟨hb, hb2, he, het, ht⟩
  have hO : Ok [⟨a, d, t⟩, ⟨b, e, t⟩] := by intro x hx; simp at hx; rcases hx with rfl | rfl <;> assumption
  have hbd : ∀ s, bound [⟨a, d, t⟩, ⟨b, e, t⟩] s = due1 s ⟨a, d, t⟩ + due1 s ⟨b, e, t⟩ := fun s => by rw [bound_cons, bound_one]
  constructor
  · intro h
    have k := h.2.2.2
    have k1 := k d (by omega)
    have k2 := k e (by omega)
    rw [hbd, due1_short oa hdt, due1_short ob hdt] at k1
    rw [hbd, due1_short oa het, due1_short ob het] at k2
    simp only at k1 k2
    by_cases c : d ≤ e
    · rw [if_pos c, if_pos (Int.le_refl _)] at k2
      rw [if_pos (Int.le_refl _)] at k1
      split at k1 <;> omega
    · rw [if_pos (Int.le_refl _), if_pos (show e ≤ d by omega)] at k1
      rw [if_neg c, if_pos (Int.le_refl _)] at k2
      omega
  · rintro ⟨h1, h2, h3⟩
    have hask : ∀ s, 1 ≤ s → s ≤ t → asked [⟨a, d, t⟩, ⟨b, e, t⟩] s = a + b := by
      intro s s1 s2
      rw [asked_cons, asked_one]; simp only [ask1]; rw [rel_one s1 s2]; omega
    have hB : IsBusy [⟨a, d, t⟩, ⟨b, e, t⟩] (a + b) := ⟨by omega, by omega, by rw [hask _ (by omega) (by omega)]; omega, fun s s1 s2 => by rw [hask s s1 (by omega)]; omega⟩
    refine ⟨by simp, hO, Or.inr ⟨_, hB⟩, fun s hs => ?_⟩
    have := ever hO hB (fun s s1 s2 => by
      rw [hbd, due1_short oa (show s ≤ t by omega), due1_short ob (show s ≤ t by omega)]
      simp only
      split <;> split <;> omega) s.toNat
    rwa [show ((s.toNat : Nat) : Int) = s from by omega] at this

theorem more_time {l : List Ld} {x : Ld} (hm : May (l ++ [x])) (h : (timeV (l ++ [x])).2 = true) : (timeV l).2 = true ∧ (timeV l).1 < (timeV (l ++ [x])).1 := by
  obtain ⟨_, h2⟩ := timeV_ok h
  have hx : ok x := hm.2 x (by simp)
  have hO : Ok l := Ok.left hm.2
  have hM : May l := ⟨by have := hm.1; simp at this; omega, hO⟩
  rcases h2 with ⟨e, _⟩ | ⟨_, hb⟩
  · simp at e
  · generalize (timeV (l ++ [x])).1 = b at hb
    by_cases e : l = []
    · subst e; rw [timeV_nil]; exact ⟨rfl, by have := hb.1; show 0 < b; omega⟩
    · have a1 := hb.2.2.1
      rw [asked_append, asked_one] at a1
      have a2 := ask1_ge hx hb.1
      have a3 := hx.1
      have a4 := work_le hO hb.1
      have a5 := work_pos hO e
      have a6 := asked_mono hO (show b - 1 ≤ b by omega)
      rcases busy_or l with ⟨t, ht⟩ | hn
      · rw [timeV_busy hM e ht]
        refine ⟨rfl, ?_⟩
        show t < b
        apply Classical.byContradiction
        intro c
        have := ht.2.2.2 (b - 1) (by omega) (by omega)
        omega
      · have := hn (b - 1) (by omega) (by have := hb.2.1; omega)
        omega
theorem timeV_eq {l m : List Ld} (hM : May l ↔ May m) (hne : l = [] ↔ m = []) (ha : ∀ s, asked l s = asked m s) : timeV l = timeV m := by
  have hB : ∀ t, IsBusy l t ↔ IsBusy m t := by intro t; unfold IsBusy; simp only [ha]
  have hN : NoBusy l ↔ NoBusy m := by unfold NoBusy; simp only [ha]
  rcases timeV_cases l with ⟨h1, h2⟩ | ⟨h1, h2⟩ | ⟨h1, h2, t, h3, h4⟩ | ⟨h1, h2, h3, h4⟩
  · rw [h2, timeV_bad (fun h => h1 (hM.mpr h))]
  · rw [h2, hne.mp h1, timeV_nil]
  · rw [h4, timeV_busy (hM.mp h1) (fun e => h2 (hne.mpr e)) ((hB t).mp h3)]
  · rw [h4, timeV_no (hM.mp h1) (fun e => h2 (hne.mpr e)) (hN.mp h3)]
theorem firstV_eq {l m : List Ld} (ht : timeV l = timeV m) (hb : ∀ s, bound l s = bound m s) : firstV l = firstV m := by
  rcases firstV_cases l with ⟨h1, h2⟩ | ⟨h1, h2, h3⟩ | ⟨h1, s, h2, h3⟩
  · rw [h2, firstV_no (ht ▸ h1)]
  · rw [h3, firstV_good (ht ▸ h1) (fun s a b => by rw [← hb]; exact h2 s a (ht ▸ b))]
  · rw [h3]
    refine (firstV_bad (ht ▸ h1) (s := s) ?_).symm
    obtain ⟨a1, a2, a3, a4⟩ := h2
    exact ⟨a1, ht ▸ a2, by rw [← hb]; exact a3, fun r r1 r2 => by rw [← hb]; exact a4 r r1 r2⟩
theorem turn_time (l r : List Ld) : timeV (l ++ r) = timeV (r ++ l) ∧ firstV (l ++ r) = firstV (r ++ l) ∧ fitsV (l ++ r) = fitsV (r ++ l) := by
  have hM : May (l ++ r) ↔ May (r ++ l) := by
    constructor <;> (rintro ⟨h1, h2⟩; exact ⟨by simp only [List.length_append] at h1 ⊢; omega, (Ok.right h2).append (Ok.left h2)⟩)
  have ht := timeV_eq hM (by constructor <;> (intro h; simp at h ⊢; exact ⟨h.2, h.1⟩)) (fun s => by rw [asked_append, asked_append]; omega)
  have hf := firstV_eq ht (fun s => by rw [bound_append, bound_append]; omega)
  exact ⟨ht, hf, by unfold fitsV; rw [ht, hf]⟩

/-- a tick of releases: how much asks at s -/
def askAt (s : Int) (x : Ld) : Int := if s % x.t = 0 then x.c else 0
theorem rel_tick {s t : Int} (hs : 0 ≤ s) (ht : 0 < t) : rel (s + 1) t = rel s t + (if s % t = 0 then 1 else 0) := by
  rw [← ref_rel (s := s + 1) (by omega) ht, ← up_rel hs ht, show s + 1 - 1 = s by omega]
  have := Int.emod_nonneg s (show t ≠ 0 by omega)
  by_cases c : s % t = 0
  · rw [if_pos c, if_neg (by omega)]
  · rw [if_neg c, if_pos (by omega)]; omega
theorem asked_tick {l : List Ld} (hl : Ok l) {s : Int} (hs : 0 ≤ s) : asked l (s + 1) = asked l s + (l.map (askAt s)).sum := by
  unfold asked
  rw [sum_add]
  congr 1
  refine List.map_congr_left (fun x hx => ?_)
  obtain ⟨h1, h2, h3, h4, h5⟩ := hl x hx
  simp only [ask1, askAt]
  rw [rel_tick hs (by omega), Int.mul_add]
  split <;> omega
theorem asked_zero {l : List Ld} (hl : Ok l) : asked l 0 = 0 := by
  unfold asked
  induction l with
  | nil => rfl
  | cons a t ih =>
    rw [List.map_cons, List.sum_cons, ih (fun x hx => hl x (by simp [hx]))]
    obtain ⟨h1, h2, h3, h4, h5⟩ := hl a (by simp)
    simp only [ask1]
    rw [rel_zero (by omega) (by omega)]; omega

end Go.Proofs.YtddepomgaeadpaaGreatDoor.LoadMath
