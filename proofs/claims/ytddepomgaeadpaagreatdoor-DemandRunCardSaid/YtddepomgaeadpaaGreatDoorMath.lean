/- Plain law of loads on a core: what is asked by a time, what is due by a time, how long a core is busy, what fits. No program in sight. -/
namespace Go.Proofs.YtddepomgaeadpaaGreatDoor.LoadMath

/-- A load: c ticks, within d, every t. -/
structure Ld where
  c : Int
  d : Int
  t : Int
deriving DecidableEq

def ok (x : Ld) : Prop := 1 ≤ x.c ∧ x.c ≤ 20000 ∧ 1 ≤ x.d ∧ x.d ≤ x.t ∧ x.t ≤ 200
def Ok (l : List Ld) : Prop := ∀ x ∈ l, ok x

/-- how many releases lie in the first s ticks -/
def rel (s t : Int) : Int := -((-s) / t)
def ask1 (s : Int) (x : Ld) : Int := x.c * rel s x.t
def asked (l : List Ld) (s : Int) : Int := (l.map (ask1 s)).sum
/-- how much of one load has to be done by s -/
def due1 (s : Int) (x : Ld) : Int := if x.d > s then 0 else x.c * ((s - x.d) / x.t + 1)
def bound (l : List Ld) (s : Int) : Int := (l.map (due1 s)).sum

theorem sum_le (f g : Ld → Int) (l : List Ld) (h : ∀ x ∈ l, f x ≤ g x) : (l.map f).sum ≤ (l.map g).sum := by
  induction l with
  | nil => simp
  | cons a t ih =>
    have h1 := h a (by simp)
    have h2 := ih (fun x hx => h x (by simp [hx]))
    simp only [List.map_cons, List.sum_cons]; omega
theorem sum_nonneg (f : Ld → Int) (l : List Ld) (h : ∀ x ∈ l, 0 ≤ f x) : 0 ≤ (l.map f).sum := by
  induction l with
  | nil => simp
  | cons a t ih =>
    have h1 := h a (by simp)
    have h2 := ih (fun x hx => h x (by simp [hx]))
    simp only [List.map_cons, List.sum_cons]; omega
theorem sum_add (f g : Ld → Int) (l : List Ld) : (l.map f).sum + (l.map g).sum = (l.map fun x => f x + g x).sum := by
  induction l with
  | nil => simp
  | cons a t ih => simp only [List.map_cons, List.sum_cons]; omega

theorem div_mono {a b t : Int} (ht : 0 < t) (h : a ≤ b) : a / t ≤ b / t := Int.ediv_le_ediv ht h
theorem rel_mono {s s' t : Int} (ht : 0 < t) (h : s ≤ s') : rel s t ≤ rel s' t := by
  unfold rel
  have := div_mono ht (show -s' ≤ -s by omega)
  omega
theorem rel_nonneg {s t : Int} (ht : 0 < t) (h : 0 ≤ s) : 0 ≤ rel s t := by
  have := rel_mono ht h
  unfold rel at *
  simp at this; omega
theorem rel_pos {s t : Int} (ht : 0 < t) (h : 1 ≤ s) : 1 ≤ rel s t := by
  unfold rel
  have := Int.ediv_neg_of_neg_of_pos (show -s < 0 by omega) ht
  omega
/-- the releases: rel s t is the least n with n * t ≥ s -/
theorem rel_spec {s t : Int} (ht : 0 < t) : s ≤ rel s t * t ∧ rel s t * t < s + t := by
  unfold rel
  have h1 := Int.emod_nonneg (-s) (show t ≠ 0 by omega)
  have h2 := Int.emod_lt_of_pos (-s) ht
  have h3 := Int.mul_ediv_add_emod (-s) t
  rw [Int.neg_mul, Int.mul_comm]
  constructor <;> omega
theorem mul_mono {c a b : Int} (hc : 0 ≤ c) (h : a ≤ b) : c * a ≤ c * b := Int.mul_le_mul_of_nonneg_left h hc

theorem ask1_mono {s s' : Int} {x : Ld} (hx : ok x) (h : s ≤ s') : ask1 s x ≤ ask1 s' x := by
  obtain ⟨h1, h2, h3, h4, h5⟩ := hx
  exact mul_mono (by omega) (rel_mono (by omega) h)
theorem asked_mono {l : List Ld} (hl : Ok l) {s s' : Int} (h : s ≤ s') : asked l s ≤ asked l s' := sum_le _ _ l (fun x hx => ask1_mono (hl x hx) h)
theorem asked_pos {l : List Ld} (hl : Ok l) (hne : l ≠ []) {s : Int} (h : 1 ≤ s) : 1 ≤ asked l s := by
  cases l with
  | nil => exact absurd rfl hne
  | cons a t =>
    obtain ⟨h1, h2, h3, h4, h5⟩ := hl a (by simp)
    have r1 := rel_pos (t := a.t) (by omega) h
    have : 1 ≤ ask1 s a := by
      have := mul_mono (c := a.c) (by omega) r1
      unfold ask1; omega
    have t0 : 0 ≤ (t.map (ask1 s)).sum := sum_nonneg _ _ (fun x hx => by
      obtain ⟨g1, g2, g3, g4, g5⟩ := hl x (by simp [hx])
      exact Int.mul_nonneg (by omega) (rel_nonneg (by omega) (by omega)))
    unfold asked; simp only [List.map_cons, List.sum_cons]; omega

/-- The busy time: the first one by which no more is asked than there was time. -/
def IsBusy (l : List Ld) (t : Int) : Prop := 1 ≤ t ∧ t ≤ 20000 ∧ asked l t ≤ t ∧ ∀ s, 1 ≤ s → s < t → s < asked l s
def NoBusy (l : List Ld) : Prop := ∀ s, 1 ≤ s → s ≤ 20000 → s < asked l s

theorem IsBusy.unique {l : List Ld} {t t' : Int} (h : IsBusy l t) (h' : IsBusy l t') : t = t' := by
  obtain ⟨h1, h2, h3, h4⟩ := h
  obtain ⟨g1, g2, g3, g4⟩ := h'
  rcases Int.lt_trichotomy t t' with c | c | c
  · have := g4 t h1 c; omega
  · exact c
  · have := h4 t' g1 c; omega
theorem busy_or (l : List Ld) : (∃ t, IsBusy l t) ∨ NoBusy l := by
  by_cases h : NoBusy l
  · exact Or.inr h
  · left
    have : ∃ n : Nat, 1 ≤ n ∧ n ≤ 20000 ∧ asked l n ≤ n := by
      apply Classical.byContradiction
      intro hn
      apply h
      intro s s1 s2
      apply Classical.byContradiction
      intro hs
      exact hn ⟨s.toNat, by omega, by omega, by rw [show ((s.toNat : Nat) : Int) = s from by omega]; omega⟩
    obtain ⟨n, hn⟩ := this
    induction n using Nat.strongRecOn with
    | ind n ih =>
      by_cases hm : ∃ m : Nat, m < n ∧ 1 ≤ m ∧ m ≤ 20000 ∧ asked l m ≤ m
      · obtain ⟨m, m1, m2⟩ := hm
        exact ih m m1 m2
      · refine ⟨n, by omega, by omega, hn.2.2, fun s s1 s2 => ?_⟩
        apply Classical.byContradiction
        intro hs
        exact hm ⟨s.toNat, by omega, by omega, by omega, by rw [show ((s.toNat : Nat) : Int) = s from by omega]; omega⟩

/-! what is due -/
theorem due1_nonneg {s : Int} {x : Ld} (hx : ok x) : 0 ≤ due1 s x := by
  obtain ⟨h1, h2, h3, h4, h5⟩ := hx
  unfold due1
  split
  · omega
  · have := Int.ediv_nonneg (show 0 ≤ s - x.d by omega) (show 0 ≤ x.t by omega)
    exact Int.mul_nonneg (by omega) (by omega)
theorem due1_mono {s s' : Int} {x : Ld} (hx : ok x) (h : s ≤ s') : due1 s x ≤ due1 s' x := by
  have h0 := due1_nonneg (s := s') hx
  obtain ⟨h1, h2, h3, h4, h5⟩ := hx
  unfold due1 at *
  by_cases c : x.d > s
  · rw [if_pos c]; exact h0
  · rw [if_neg c, if_neg (by omega)]
    have := div_mono (show 0 < x.t by omega) (show s - x.d ≤ s' - x.d by omega)
    exact mul_mono (by omega) (by omega)
theorem bound_nonneg {l : List Ld} (hl : Ok l) (s : Int) : 0 ≤ bound l s := sum_nonneg _ _ (fun x hx => due1_nonneg (hl x hx))
/-- what is due by s was asked by s -/
theorem due1_le_ask1 {s : Int} {x : Ld} (hx : ok x) (hs : 0 ≤ s) : due1 s x ≤ ask1 s x := by
  obtain ⟨h1, h2, h3, h4, h5⟩ := hx
  unfold due1 ask1
  have r0 := rel_nonneg (s := s) (t := x.t) (by omega) hs
  by_cases c : x.d > s
  · rw [if_pos c]; exact Int.mul_nonneg (by omega) r0
  · rw [if_neg c]
    refine mul_mono (by omega) ?_
    obtain ⟨g1, g2⟩ := rel_spec (s := s) (t := x.t) (by omega)
    have e1 := Int.mul_ediv_add_emod (s - x.d) x.t
    have e2 := Int.emod_nonneg (s - x.d) (show x.t ≠ 0 by omega)
    generalize rel s x.t = r at *
    generalize (s - x.d) / x.t = q at *
    have e3 : x.t * q < x.t * r := by rw [Int.mul_comm x.t r]; omega
    have := Int.lt_of_mul_lt_mul_left e3 (by omega)
    omega
theorem bound_le_asked {l : List Ld} (hl : Ok l) {s : Int} (hs : 0 ≤ s) : bound l s ≤ asked l s := sum_le _ _ l (fun x hx => due1_le_ask1 (hl x hx) hs)

/-- behind L what is due by t was asked before L, or is due, from L on, by t - L -/
theorem due1_split {L t : Int} {x : Ld} (hx : ok x) (hL : 0 ≤ L) (ht : L ≤ t) : due1 t x ≤ ask1 L x + due1 (t - L) x := by
  have hd := due1_nonneg (s := t - L) hx
  obtain ⟨h1, h2, h3, h4, h5⟩ := hx
  have r0 := rel_nonneg (s := L) (t := x.t) (by omega) hL
  obtain ⟨g1, g2⟩ := rel_spec (s := L) (t := x.t) (by omega)
  unfold due1 ask1 at *
  by_cases c : x.d > t
  · rw [if_pos c]
    have := Int.mul_nonneg (show 0 ≤ x.c by omega) r0
    omega
  · rw [if_neg c]
    by_cases c2 : x.d > t - L
    · rw [if_pos c2]
      rw [Int.add_zero]
      refine mul_mono (by omega) ?_
      have e1 := Int.mul_ediv_add_emod (t - x.d) x.t
      have e2 := Int.emod_nonneg (t - x.d) (show x.t ≠ 0 by omega)
      generalize rel L x.t = r at *
      generalize (t - x.d) / x.t = q at *
      have e3 : x.t * q < x.t * r := by rw [Int.mul_comm x.t r]; omega
      have := Int.lt_of_mul_lt_mul_left e3 (by omega)
      omega
    · rw [if_neg c2, ← Int.mul_add]
      refine mul_mono (by omega) ?_
      have e1 := Int.mul_ediv_add_emod (t - x.d) x.t
      have e2 := Int.emod_nonneg (t - x.d) (show x.t ≠ 0 by omega)
      have f1 := Int.mul_ediv_add_emod (t - L - x.d) x.t
      have f2 := Int.emod_lt_of_pos (t - L - x.d) (show 0 < x.t by omega)
      generalize rel L x.t = r at *
      generalize (t - x.d) / x.t = q at *
      generalize (t - L - x.d) / x.t = p at *
      have e3 : x.t * q < x.t * (r + p + 1) := by rw [Int.mul_add, Int.mul_add, Int.mul_comm x.t r]; omega
      have := Int.lt_of_mul_lt_mul_left e3 (by omega)
      omega
theorem bound_split {l : List Ld} (hl : Ok l) {L t : Int} (hL : 0 ≤ L) (ht : L ≤ t) : bound l t ≤ asked l L + bound l (t - L) := by
  have : asked l L + bound l (t - L) = (l.map fun x => ask1 L x + due1 (t - L) x).sum := sum_add _ _ l
  rw [this]
  exact sum_le _ _ l (fun x hx => due1_split (hl x hx) hL ht)
/-- What fits up to its busy time fits at every time. -/
theorem ever {l : List Ld} (hl : Ok l) {L : Int} (hb : IsBusy l L) (h : ∀ s, 0 ≤ s → s ≤ L → bound l s ≤ s) (n : Nat) : bound l n ≤ n := by
  induction n using Nat.strongRecOn with
  | ind n ih =>
    obtain ⟨h1, h2, h3, h4⟩ := hb
    by_cases c : (n : Int) ≤ L
    · exact h n (by omega) c
    · have := bound_split hl (show 0 ≤ L by omega) (show L ≤ (n : Int) by omega)
      have g := ih ((n : Int) - L).toNat (by omega)
      rw [show ((((n : Int) - L).toNat : Nat) : Int) = (n : Int) - L from by omega] at g
      omega

/-- The loads fit. -/
def Fit (l : List Ld) : Prop := l.length ≤ 24 ∧ Ok l ∧ (l = [] ∨ ∃ L, IsBusy l L) ∧ ∀ s, 0 ≤ s → bound l s ≤ s

end Go.Proofs.YtddepomgaeadpaaGreatDoor.LoadMath
namespace Go.Proofs.YtddepomgaeadpaaGreatDoor.LoadMath
set_option linter.unusedVariables false

/-! ### one load at a time: earliest deadline first -/
theorem due1_step (s : Int) {x : Ld} (hx : ok x) : due1 s x = (if x.d ≤ s then x.c else 0) + due1 (s - x.t) x := by
  obtain ⟨h1, h2, h3, h4, h5⟩ := hx
  unfold due1
  by_cases c : x.d > s
  · rw [if_pos c, if_neg (by omega), if_pos (by omega)]; rfl
  · rw [if_neg c, if_pos (by omega)]
    by_cases c2 : x.d > s - x.t
    · rw [if_pos c2, Int.ediv_eq_zero_of_lt (by omega) (by omega)]; simp
    · rw [if_neg c2]
      have e : s - x.d = (s - x.t - x.d) + x.t * 1 := by omega
      rw [e, Int.add_mul_ediv_left _ _ (by omega), Int.mul_add x.c ((s - x.t - x.d) / x.t + 1) 1]; omega
end Go.Proofs.YtddepomgaeadpaaGreatDoor.LoadMath
namespace Go.Proofs.YtddepomgaeadpaaGreatDoor.LoadMath
set_option linter.unusedVariables false
noncomputable section
attribute [local instance] Classical.propDecidable

def May (l : List Ld) : Prop := l.length ≤ 24 ∧ Ok l
def timeV (l : List Ld) : Int × Bool := if May l then (if l = [] then (0, true) else if h : ∃ t, IsBusy l t then (h.choose, true) else (0, false)) else (0, false)
def FirstBad (l : List Ld) (L s : Int) : Prop := 0 ≤ s ∧ s ≤ L ∧ s < bound l s ∧ ∀ r, 0 ≤ r → r < s → bound l r ≤ r
def firstV (l : List Ld) : Int × Bool := if (timeV l).2 = true then (if h : ∃ s, FirstBad l (timeV l).1 s then (h.choose, true) else (0, false)) else (0, false)
def fitsV (l : List Ld) : Bool := (timeV l).2 && !(firstV l).2

theorem timeV_bad {l : List Ld} (h : ¬ May l) : timeV l = (0, false) := by unfold timeV; rw [if_neg h]
theorem timeV_nil : timeV [] = (0, true) := by
  unfold timeV; rw [if_pos ⟨by simp, fun x hx => by simp at hx⟩, if_pos rfl]
theorem timeV_busy {l : List Ld} (h : May l) (hne : l ≠ []) {t : Int} (ht : IsBusy l t) : timeV l = (t, true) := by
  have e : ∃ t, IsBusy l t := ⟨t, ht⟩
  unfold timeV; rw [if_pos h, if_neg hne, dif_pos e]
  rw [e.choose_spec.unique ht]
theorem timeV_no {l : List Ld} (h : May l) (hne : l ≠ []) (ht : NoBusy l) : timeV l = (0, false) := by
  unfold timeV; rw [if_pos h, if_neg hne, dif_neg]
  rintro ⟨t, h1, h2, h3, h4⟩
  have := ht t h1 h2; omega
theorem timeV_cases (l : List Ld) : (¬ May l ∧ timeV l = (0, false)) ∨ (l = [] ∧ timeV l = (0, true)) ∨ (May l ∧ l ≠ [] ∧ ∃ t, IsBusy l t ∧ timeV l = (t, true)) ∨ (May l ∧ l ≠ [] ∧ NoBusy l ∧ timeV l = (0, false)) := by
  by_cases h : May l
  · by_cases e : l = []
    · subst e; exact Or.inr (Or.inl ⟨rfl, timeV_nil⟩)
    · rcases busy_or l with ⟨t, ht⟩ | hn
      · exact Or.inr (Or.inr (Or.inl ⟨h, e, t, ht, timeV_busy h e ht⟩))
      · exact Or.inr (Or.inr (Or.inr ⟨h, e, hn, timeV_no h e hn⟩))
  · exact Or.inl ⟨h, timeV_bad h⟩
theorem may_nil : May [] := ⟨by simp, fun x hx => by simp at hx⟩
theorem timeV_ok {l : List Ld} (h : (timeV l).2 = true) : May l ∧ (l = [] ∧ (timeV l).1 = 0 ∨ l ≠ [] ∧ IsBusy l (timeV l).1) := by
  rcases timeV_cases l with ⟨h1, h2⟩ | ⟨h1, h2⟩ | ⟨h1, h2, t, h3, h4⟩ | ⟨h1, h2, h3, h4⟩
  · rw [h2] at h; cases h
  · subst h1; exact ⟨may_nil, Or.inl ⟨rfl, by rw [h2]⟩⟩
  · exact ⟨h1, Or.inr ⟨h2, by rw [h4]; exact h3⟩⟩
  · rw [h4] at h; cases h

theorem bound_zero {l : List Ld} (hl : Ok l) : bound l 0 = 0 := by
  unfold bound
  induction l with
  | nil => rfl
  | cons a t ih =>
    rw [List.map_cons, List.sum_cons, ih (fun x hx => hl x (by simp [hx]))]
    obtain ⟨h1, h2, h3, h4, h5⟩ := hl a (by simp)
    unfold due1; rw [if_pos (by omega)]; rfl
theorem bad_unique {l : List Ld} {L L' s s' : Int} (h : FirstBad l L s) (h' : FirstBad l L' s') : s = s' := by
  obtain ⟨a1, a2, a3, a4⟩ := h
  obtain ⟨b1, b2, b3, b4⟩ := h'
  rcases Int.lt_trichotomy s s' with c | c | c
  · have := b4 s a1 c; omega
  · exact c
  · have := a4 s' b1 c; omega
theorem bad_or (l : List Ld) (L : Int) : (∃ s, FirstBad l L s) ∨ ∀ s, 0 ≤ s → s ≤ L → bound l s ≤ s := by
  by_cases h : ∀ s, 0 ≤ s → s ≤ L → bound l s ≤ s
  · exact Or.inr h
  · left
    have : ∃ n : Nat, (n : Int) ≤ L ∧ (n : Int) < bound l n := by
      apply Classical.byContradiction
      intro hn
      apply h
      intro s s1 s2
      apply Classical.byContradiction
      intro hs
      exact hn ⟨s.toNat, by omega, by rw [show ((s.toNat : Nat) : Int) = s from by omega]; omega⟩
    obtain ⟨n, hn⟩ := this
    induction n using Nat.strongRecOn with
    | ind n ih =>
      by_cases hm : ∃ m : Nat, m < n ∧ (m : Int) ≤ L ∧ (m : Int) < bound l m
      · obtain ⟨m, m1, m2⟩ := hm
        exact ih m m1 m2
      · refine ⟨n, by omega, hn.1, hn.2, fun s s1 s2 => ?_⟩
        apply Classical.byContradiction
        intro hs
        exact hm ⟨s.toNat, by omega, by omega, by rw [show ((s.toNat : Nat) : Int) = s from by omega]; omega⟩
theorem firstV_no {l : List Ld} (h : (timeV l).2 = false) : firstV l = (0, false) := by unfold firstV; rw [h]; rfl
theorem firstV_bad {l : List Ld} {s : Int} (h : (timeV l).2 = true) (hs : FirstBad l (timeV l).1 s) : firstV l = (s, true) := by
  have e : ∃ s, FirstBad l (timeV l).1 s := ⟨s, hs⟩
  unfold firstV; rw [if_pos h, dif_pos e, bad_unique e.choose_spec hs]
theorem firstV_good {l : List Ld} (h : (timeV l).2 = true) (hs : ∀ s, 0 ≤ s → s ≤ (timeV l).1 → bound l s ≤ s) : firstV l = (0, false) := by
  unfold firstV; rw [if_pos h, dif_neg]
  rintro ⟨s, h1, h2, h3, h4⟩
  have := hs s h1 h2; omega
theorem firstV_cases (l : List Ld) : ((timeV l).2 = false ∧ firstV l = (0, false)) ∨ ((timeV l).2 = true ∧ (∀ s, 0 ≤ s → s ≤ (timeV l).1 → bound l s ≤ s) ∧ firstV l = (0, false)) ∨ ((timeV l).2 = true ∧ ∃ s, FirstBad l (timeV l).1 s ∧ firstV l = (s, true)) := by
  cases h : (timeV l).2
  · exact Or.inl ⟨rfl, firstV_no h⟩
  · rcases bad_or l (timeV l).1 with ⟨s, hs⟩ | hg
    · exact Or.inr (Or.inr ⟨rfl, s, hs, firstV_bad h hs⟩)
    · exact Or.inr (Or.inl ⟨rfl, hg, firstV_good h hg⟩)
theorem fit_nil : Fit [] := ⟨by simp, fun x hx => by simp at hx, Or.inl rfl, fun s hs => by simpa [bound] using hs⟩
theorem fitsV_iff {l : List Ld} : fitsV l = true ↔ Fit l := by
  unfold fitsV
  constructor
  · intro h
    rw [Bool.and_eq_true, Bool.not_eq_true'] at h
    obtain ⟨h1, h2⟩ := timeV_ok h.1
    rcases firstV_cases l with ⟨a1, a2⟩ | ⟨a1, a2, a3⟩ | ⟨a1, s, a2, a3⟩
    · rw [a1] at h; cases h.1
    · rcases h2 with ⟨rfl, _⟩ | ⟨hne, hb⟩
      · exact fit_nil
      · refine ⟨h1.1, h1.2, Or.inr ⟨_, hb⟩, fun s hs => ?_⟩
        have := ever h1.2 hb a2 s.toNat
        rwa [show ((s.toNat : Nat) : Int) = s from by omega] at this
    · rw [a3] at h; cases h.2
  · rintro ⟨h1, h2, h3, h4⟩
    have ht : (timeV l).2 = true := by
      by_cases e : l = []
      · subst e; rw [timeV_nil]
      · rcases h3 with h3 | ⟨L, hL⟩
        · exact absurd h3 e
        · rw [timeV_busy ⟨h1, h2⟩ e hL]
    rw [firstV_good ht (fun s s1 _ => h4 s s1), ht]; rfl
theorem asked_cons (x : Ld) (l : List Ld) (s : Int) : asked (x :: l) s = ask1 s x + asked l s := by simp [asked]
theorem bound_cons (x : Ld) (l : List Ld) (s : Int) : bound (x :: l) s = due1 s x + bound l s := by simp [bound]
theorem ask1_nonneg {x : Ld} (hx : ok x) {s : Int} (hs : 0 ≤ s) : 0 ≤ ask1 s x := by
  obtain ⟨h1, h2, h3, h4, h5⟩ := hx
  exact Int.mul_nonneg (by omega) (rel_nonneg (by omega) hs)
theorem asked_nonneg {l : List Ld} (hl : Ok l) {s : Int} (hs : 0 ≤ s) : 0 ≤ asked l s := sum_nonneg _ _ (fun x hx => ask1_nonneg (hl x hx) hs)
theorem Ok.append {l m : List Ld} (h : Ok l) (h' : Ok m) : Ok (l ++ m) := by
  intro x hx
  rcases List.mem_append.mp hx with c | c
  · exact h x c
  · exact h' x c
theorem Ok.left {l m : List Ld} (h : Ok (l ++ m)) : Ok l := fun x hx => h x (List.mem_append.mpr (Or.inl hx))
theorem Ok.right {l m : List Ld} (h : Ok (l ++ m)) : Ok m := fun x hx => h x (List.mem_append.mpr (Or.inr hx))
/-! ### the first time at which there is too much is a deadline -/
theorem bound_step_eq {l : List Ld} (hl : Ok l) {s : Int} (h : ∀ x ∈ l, ¬ (x.d ≤ s ∧ (s - x.d) % x.t = 0)) : bound l s = bound l (s - 1) := by
  unfold bound
  induction l with
  | nil => rfl
  | cons a t ih =>
    rw [List.map_cons, List.sum_cons, List.map_cons, List.sum_cons, ih (fun x hx => hl x (by simp [hx])) (fun x hx => h x (by simp [hx]))]
    obtain ⟨h1, h2, h3, h4, h5⟩ := hl a (by simp)
    have g := h a (by simp)
    have : due1 s a = due1 (s - 1) a := by
      unfold due1
      by_cases c : a.d > s
      · rw [if_pos c, if_pos (by omega)]
      · have hm : (s - a.d) % a.t ≠ 0 := fun e => g ⟨by omega, e⟩
        have hne : a.d ≠ s := by
          intro e; apply hm; rw [e]; simp
        rw [if_neg c, if_neg (by omega)]
        have e : (s - 1 - a.d) / a.t = (s - a.d) / a.t := by
          have e1 := Int.mul_ediv_add_emod (s - a.d) a.t
          have e2 := Int.emod_nonneg (s - a.d) (show a.t ≠ 0 by omega)
          have e3 := Int.emod_lt_of_pos (s - a.d) (show 0 < a.t by omega)
          have : s - 1 - a.d = ((s - a.d) % a.t - 1) + a.t * ((s - a.d) / a.t) := by omega
          rw [this, Int.add_mul_ediv_left _ _ (by omega), Int.ediv_eq_zero_of_lt (by omega) (by omega)]; omega
        rw [e]
    omega
theorem bad_point {l : List Ld} (hl : Ok l) {L s : Int} (h : FirstBad l L s) : ∃ x ∈ l, x.d ≤ s ∧ (s - x.d) % x.t = 0 := by
  apply Classical.byContradiction
  intro hn
  have h1 := bound_step_eq hl (s := s) (fun x hx hh => hn ⟨x, hx, hh⟩)
  obtain ⟨a1, a2, a3, a4⟩ := h
  by_cases c : s = 0
  · subst c; rw [bound_zero hl] at a3; omega
  · have := a4 (s - 1) (by omega) (by omega); omega
end
end Go.Proofs.YtddepomgaeadpaaGreatDoor.LoadMath
namespace Go.Proofs.YtddepomgaeadpaaGreatDoor.LoadMath
set_option linter.unusedVariables false

/-! ### all of one time -/
/-! ### a load more, in other orders -/
/-! ### the most that fits -/
def IsTop (P : Int → Prop) (hi r : Int) : Prop := 0 ≤ r ∧ (r = 0 ∨ r ≤ hi ∧ P r) ∧ ∀ c, r < c → c ≤ hi → ¬ P c
theorem IsTop.unique {P : Int → Prop} {hi r r' : Int} (h : IsTop P hi r) (h' : IsTop P hi r') : r = r' := by
  obtain ⟨a1, a2, a3⟩ := h
  obtain ⟨b1, b2, b3⟩ := h'
  rcases Int.lt_trichotomy r r' with c | c | c
  · rcases b2 with b2 | ⟨b2, b4⟩
    · omega
    · exact absurd b4 (a3 r' c b2)
  · exact c
  · rcases a2 with a2 | ⟨a2, a4⟩
    · omega
    · exact absurd a4 (b3 r c a2)
/-- how far it goes without a gap -/
def IsRun (P : Int → Prop) (hi r : Int) : Prop := 0 ≤ r ∧ (r = 0 ∨ r ≤ hi) ∧ (∀ c, 1 ≤ c → c ≤ r → P c) ∧ (r < hi → ¬ P (r + 1))
theorem IsRun.unique {P : Int → Prop} {hi r r' : Int} (h : IsRun P hi r) (h' : IsRun P hi r') : r = r' := by
  obtain ⟨a1, a2, a3, a4⟩ := h
  obtain ⟨b1, b2, b3, b4⟩ := h'
  rcases Int.lt_trichotomy r r' with c | c | c
  · exact absurd (b3 (r + 1) (by omega) (by omega)) (a4 (by omega))
  · exact c
  · exact absurd (a3 (r' + 1) (by omega) (by omega)) (b4 (by omega))
end Go.Proofs.YtddepomgaeadpaaGreatDoor.LoadMath
namespace Go.Proofs.YtddepomgaeadpaaGreatDoor.LoadMath
set_option linter.unusedVariables false
theorem rel_zero {s t : Int} (h1 : s ≤ 0) (h2 : -t < s) : rel s t = 0 := by
  unfold rel
  rw [Int.ediv_eq_zero_of_lt (by omega) (by omega)]; rfl
theorem up_rel {s t : Int} (hs : 0 ≤ s) (ht : 0 < t) : (if s % t > 0 then s / t + 1 else s / t) = rel s t := by
  obtain ⟨b1, b2⟩ := rel_spec (s := s) (t := t) (by omega)
  have e1 := Int.mul_ediv_add_emod s t
  have e2 := Int.emod_nonneg s (show t ≠ 0 by omega)
  have e3 := Int.emod_lt_of_pos s ht
  rw [Int.mul_comm] at b1 b2
  obtain ⟨q, hq⟩ : ∃ q, s / t = q := ⟨_, rfl⟩
  rw [hq] at e1 ⊢
  obtain ⟨r, hr⟩ : ∃ r, rel s t = r := ⟨_, rfl⟩
  rw [hr] at b1 b2 ⊢
  split
  · have f1 : t * q < t * r := by omega
    have f2 : t * r < t * (q + 2) := by rw [Int.mul_add]; omega
    have := Int.lt_of_mul_lt_mul_left f1 (by omega)
    have := Int.lt_of_mul_lt_mul_left f2 (by omega)
    omega
  · have f1 : t * q < t * (r + 1) := by rw [Int.mul_add]; omega
    have f2 : t * r < t * (q + 1) := by rw [Int.mul_add]; omega
    have := Int.lt_of_mul_lt_mul_left f1 (by omega)
    have := Int.lt_of_mul_lt_mul_left f2 (by omega)
    omega
theorem rel_le {s t : Int} (hs : 0 ≤ s) (ht : 0 < t) : rel s t ≤ s := by
  by_cases c : s = 0
  · subst c; rw [rel_zero (by omega) (by omega)]; exact Int.le_refl _
  · obtain ⟨b1, b2⟩ := rel_spec (s := s) (t := t) (by omega)
    rw [Int.mul_comm] at b1 b2
    generalize rel s t = r at *
    have : t * r < t * (s + 1) := by
      have : t * 1 ≤ t * s := Int.mul_le_mul_of_nonneg_left (by omega) (by omega)
      have h2 : 1 * s ≤ t * s := Int.mul_le_mul_of_nonneg_right (by omega) (by omega)
      rw [Int.mul_add]
      omega
    have := Int.lt_of_mul_lt_mul_left this (by omega)
    omega
theorem ask1_le {x : Ld} (hx : ok x) {s : Int} (hs : 0 ≤ s) : ask1 s x ≤ 20000 * s := by
  obtain ⟨h1, h2, h3, h4, h5⟩ := hx
  have r := rel_le hs (show 0 < x.t by omega)
  have r0 := rel_nonneg (s := s) (show 0 < x.t by omega) hs
  exact Int.mul_le_mul h2 r r0 (by omega)
theorem asked_le {l : List Ld} (hl : Ok l) {s : Int} (hs : 0 ≤ s) : asked l s ≤ l.length * (20000 * s) := by
  unfold asked
  induction l with
  | nil => simp
  | cons a t ih =>
    have h1 := ih (fun x hx => hl x (by simp [hx]))
    have h2 := ask1_le (hl a (by simp)) hs
    rw [List.map_cons, List.sum_cons, List.length_cons]
    have : ((t.length + 1 : Nat) : Int) * (20000 * s) = (t.length : Int) * (20000 * s) + 20000 * s := by
      rw [Int.natCast_add, Int.add_mul]; omega
    omega
theorem due1_le {x : Ld} (hx : ok x) {s : Int} (hs : 0 ≤ s) : due1 s x ≤ 20000 * s := Int.le_trans (due1_le_ask1 hx hs) (ask1_le hx hs)
end Go.Proofs.YtddepomgaeadpaaGreatDoor.LoadMath
