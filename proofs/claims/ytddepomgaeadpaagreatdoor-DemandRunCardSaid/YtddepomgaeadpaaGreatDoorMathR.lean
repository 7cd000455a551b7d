/- The earliest of all deadlines first: nothing is late. -/
import Derived.Test.YtddepomgaeadpaaGreatDoorMath
namespace Go.Proofs.YtddepomgaeadpaaGreatDoor.LoadMath
set_option linter.unusedVariables false
def sumN : Nat → (Nat → Int) → Int
  | 0, _ => 0
  | n + 1, f => sumN n f + f n
theorem sumN_congr {n : Nat} {f g : Nat → Int} (h : ∀ i, i < n → f i = g i) : sumN n f = sumN n g := by
  induction n with
  | zero => rfl
  | succ n ih => simp only [sumN]; rw [ih (fun i hi => h i (by omega)), h n (by omega)]
theorem sumN_le {n : Nat} {f g : Nat → Int} (h : ∀ i, i < n → f i ≤ g i) : sumN n f ≤ sumN n g := by
  induction n with
  | zero => exact Int.le_refl _
  | succ n ih =>
    have h1 := ih (fun i hi => h i (by omega))
    have h2 := h n (by omega)
    simp only [sumN]; omega
theorem sumN_nonneg {n : Nat} {f : Nat → Int} (h : ∀ i, i < n → 0 ≤ f i) : 0 ≤ sumN n f := by
  induction n with
  | zero => exact Int.le_refl _
  | succ n ih =>
    have h1 := ih (fun i hi => h i (by omega))
    have h2 := h n (by omega)
    simp only [sumN]; omega
theorem sumN_ge {n : Nat} {f : Nat → Int} (h : ∀ i, i < n → 0 ≤ f i) {k : Nat} (hk : k < n) : f k ≤ sumN n f := by
  induction n with
  | zero => omega
  | succ n ih =>
    have h0 := sumN_nonneg (n := n) (fun i hi => h i (by omega))
    have h2 := h n (by omega)
    simp only [sumN]
    by_cases c : k = n
    · subst c; omega
    · have := ih (fun i hi => h i (by omega)) (by omega); omega
/-- one term turned -/
theorem sumN_one {n k : Nat} (hk : k < n) {f g : Nat → Int} (h : ∀ i, i < n → i ≠ k → f i = g i) : sumN n f = sumN n g + (f k - g k) := by
  induction n with
  | zero => omega
  | succ n ih =>
    simp only [sumN]
    by_cases c : k = n
    · subst c
      rw [sumN_congr (fun i hi => h i (by omega) (by omega))]; omega
    · rw [ih (by omega) (fun i hi hn => h i (by omega) hn), h n (by omega) (by omega)]; omega
theorem sumN_front (n : Nat) (f : Nat → Int) : sumN (n + 1) f = f 0 + sumN n (fun i => f (i + 1)) := by
  induction n with
  | zero => simp [sumN]
  | succ n ih =>
    rw [sumN, ih]; simp only [sumN]; omega
theorem sum_eq_sumN (f : Ld → Int) (z : Ld) : ∀ l : List Ld, (l.map f).sum = sumN l.length (fun i => f (l.getD i z))
  | [] => rfl
  | a :: l => by
    rw [List.map_cons, List.sum_cons, List.length_cons, sumN_front, sum_eq_sumN f z l]
    simp

def wgt (x : Ld) (L D N t d : Int) : Int := (if D ≤ d then L else 0) + due1 (d - max N t) x
theorem wgt_nonneg {x : Ld} (hx : ok x) {L D N t d : Int} (h : 0 ≤ L) : 0 ≤ wgt x L D N t d := by
  have := due1_nonneg (s := d - max N t) hx
  unfold wgt; split <;> omega
theorem wgt_release {x : Ld} (hx : ok x) {D N t d g : Int} (hN : N ≤ t) (hg : 0 ≤ g) : wgt x x.c (t + x.d) (t + x.t + g) t d ≤ wgt x 0 D N t d := by
  have h1 := due1_step (d - t) hx
  have h2 := due1_mono (s := d - max (t + x.t + g) t) (s' := d - t - x.t) hx (by obtain ⟨h1, h2, h3, h4, h5⟩ := hx; omega)
  unfold wgt
  rw [show max N t = t by omega]
  by_cases c : x.d ≤ d - t
  · rw [if_pos c] at h1
    rw [if_pos (by omega)]; split <;> omega
  · rw [if_neg c] at h1
    rw [if_neg (by omega)]; split <;> omega

/-- What is to be done by d lies within the time, from t on. -/
def Safe (n : Nat) (x : Nat → Ld) (L D N : Nat → Int) (t : Int) : Prop := ∀ d, t ≤ d → sumN n (fun i => wgt (x i) (L i) (D i) (N i) t d) ≤ d - t
/-- how the state stands inside a tick, behind i loads -/
structure In (n : Nat) (x : Nat → Ld) (L D N : Nat → Int) (t : Int) (i : Nat) (b : Int) : Prop where
  nn : ∀ j, j < n → 0 ≤ L j
  dn : ∀ j, j < n → D j ≤ N j
  safe : Safe n x L D N t
  done : ∀ j, j < i → t < N j
  best : (b = -1 ∧ ∀ j, j < i → L j = 0) ∨ (0 ≤ b ∧ b < i ∧ 0 < L b.toNat ∧ ∀ j, j < i → 0 < L j → D b.toNat ≤ D j)
/-- at the head of a tick -/
structure At (n : Nat) (x : Nat → Ld) (L D N : Nat → Int) (t : Int) : Prop where
  nn : ∀ j, j < n → 0 ≤ L j
  dn : ∀ j, j < n → D j ≤ N j
  safe : Safe n x L D N t

theorem At.start {n : Nat} {x : Nat → Ld} {L D N : Nat → Int} {t : Int} (h : At n x L D N t) : In n x L D N t 0 (-1) :=
  ⟨h.nn, h.dn, h.safe, fun j hj => by omega, Or.inl ⟨rfl, fun j hj => by omega⟩⟩
/-- nothing is late -/
theorem In.late {n : Nat} {x : Nat → Ld} {L D N : Nat → Int} {t : Int} {i : Nat} {b : Int} (h : In n x L D N t i b) (hx : ∀ j, j < n → ok (x j)) {j : Nat} (hj : j < n) (hL : 0 < L j) : t < D j := by
  apply Classical.byContradiction
  intro hn
  have h1 := h.safe t (Int.le_refl _)
  have h2 := sumN_ge (n := n) (f := fun i => wgt (x i) (L i) (D i) (N i) t t) (fun i hi => wgt_nonneg (hx i hi) (h.nn i hi)) hj
  have h3 : wgt (x j) (L j) (D j) (N j) t t ≥ L j := by
    have := due1_nonneg (s := t - max (N j) t) (hx j hj)
    unfold wgt; rw [if_pos (by omega)]; omega
  try simp only at h2
  omega
def upd (f : Nat → Int) (i : Nat) (v : Int) : Nat → Int := fun j => if j = i then v else f j
theorem upd_same (f : Nat → Int) (i : Nat) (v : Int) : upd f i v i = v := by simp [upd]
theorem upd_ne (f : Nat → Int) {i j : Nat} (v : Int) (h : j ≠ i) : upd f i v j = f j := by simp [upd, h]

/-- the i-th load asks -/
theorem In.release {n : Nat} {x : Nat → Ld} {L D N : Nat → Int} {t : Int} {i : Nat} {b g : Int} (h : In n x L D N t i b) (hx : ∀ j, j < n → ok (x j)) (hi : i < n) (h0 : L i = 0) (hN : N i ≤ t) (hg : 0 ≤ g) :
    In n x (upd L i (x i).c) (upd D i (t + (x i).d)) (upd N i (t + (x i).t + g)) t i b := by
  have hxi := hx i hi
  obtain ⟨k1, k2, k3, k4, k5⟩ := hxi
  refine ⟨?_, ?_, ?_, ?_, ?_⟩
  · intro j hj
    by_cases c : j = i
    · subst c; rw [upd_same]; omega
    · rw [upd_ne _ _ c]; exact h.nn j hj
  · intro j hj
    by_cases c : j = i
    · subst c; rw [upd_same, upd_same]; omega
    · rw [upd_ne _ _ c, upd_ne _ _ c]; exact h.dn j hj
  · intro d hd
    have h1 := h.safe d hd
    have h2 := sumN_one (n := n) (k := i) hi (f := fun j => wgt (x j) (upd L i (x i).c j) (upd D i (t + (x i).d) j) (upd N i (t + (x i).t + g) j) t d) (g := fun i => wgt (x i) (L i) (D i) (N i) t d) (fun j hj hn => by simp only [upd_ne _ _ hn])
    simp only [upd_same] at h2
    have h3 := wgt_release (hx i hi) (D := D i) (N := N i) (t := t) (d := d) (g := g) hN hg
    rw [h0] at h2
    omega
  · intro j hj
    rw [upd_ne _ _ (by omega)]; exact h.done j hj
  · rcases h.best with ⟨hb, hl⟩ | ⟨hb, hb1, hb2, hb3⟩
    · exact Or.inl ⟨hb, fun j hj => by rw [upd_ne _ _ (by omega)]; exact hl j hj⟩
    · refine Or.inr ⟨hb, hb1, by rw [upd_ne _ _ (by omega)]; exact hb2, fun j hj hl => ?_⟩
      rw [upd_ne _ _ (by omega)] at hl
      rw [upd_ne _ _ (by omega), upd_ne _ _ (by omega)]; exact hb3 j hj hl
/-- the i-th load is passed by -/
theorem In.next {n : Nat} {x : Nat → Ld} {L D N : Nat → Int} {t : Int} {i : Nat} {b : Int} (h : In n x L D N t i b) (hx : ∀ j, j < n → ok (x j)) (hi : i < n) (hr : L i ≠ 0 ∨ t < N i) :
    In n x L D N t (i + 1) (if 0 < L i ∧ (b < 0 ∨ D i < D b.toNat) then i else b) := by
  have h0 := h.nn i hi
  have hN : t < N i := by
    by_cases c : L i = 0
    · rcases hr with hr | hr
      · exact absurd c hr
      · exact hr
    · have := h.late hx hi (by omega)
      have := h.dn i hi; omega
  refine ⟨h.nn, h.dn, h.safe, ?_, ?_⟩
  · intro j hj
    by_cases c : j = i
    · subst c; exact hN
    · exact h.done j (by omega)
  · by_cases c : 0 < L i ∧ (b < 0 ∨ D i < D b.toNat)
    · rw [if_pos c]
      refine Or.inr ⟨by omega, by omega, by simpa using c.1, fun j hj hl => ?_⟩
      rw [Int.toNat_natCast]
      by_cases e : j = i
      · subst e; omega
      · rcases h.best with ⟨hb, hl'⟩ | ⟨hb, hb1, hb2, hb3⟩
        · have := hl' j (by omega); omega
        · have := hb3 j (by omega) hl; omega
    · rw [if_neg c]
      rcases h.best with ⟨hb, hl'⟩ | ⟨hb, hb1, hb2, hb3⟩
      · refine Or.inl ⟨hb, fun j hj => ?_⟩
        by_cases e : j = i
        · subst e; omega
        · exact hl' j (by omega)
      · refine Or.inr ⟨hb, by omega, hb2, fun j hj hl => ?_⟩
        by_cases e : j = i
        · subst e; omega
        · exact hb3 j (by omega) hl
/-- the tick is done: the best one is a tick further -/
theorem In.tick {n : Nat} {x : Nat → Ld} {L D N : Nat → Int} {t : Int} {b : Int} (h : In n x L D N t n b) (hx : ∀ j, j < n → ok (x j)) (hf : ∀ s, 0 ≤ s → sumN n (fun i => due1 s (x i)) ≤ s) :
    At n x (if b ≥ 0 then upd L b.toNat (L b.toNat - 1) else L) D N (t + 1) := by
  have hnb : ∀ d, t + 1 ≤ d → ∀ i, i < n → due1 (d - max (N i) (t + 1)) (x i) ≤ due1 (d - (t + 1)) (x i) := fun d hd i hi => due1_mono (hx i hi) (by omega)
  rcases h.best with ⟨hb, hl⟩ | ⟨hb, hb1, hb2, hb3⟩
  · rw [if_neg (by omega)]
    refine ⟨h.nn, h.dn, fun d hd => ?_⟩
    have h1 := hf (d - (t + 1)) (by omega)
    have h2 := sumN_le (n := n) (f := fun i => wgt (x i) (L i) (D i) (N i) (t + 1) d) (g := fun i => due1 (d - (t + 1)) (x i)) (fun i hi => by
      have := hnb d hd i hi
      simp only [wgt]; rw [hl i hi]; split <;> omega)
    omega
  · rw [if_pos (by omega)]
    have hbn : b.toNat < n := by omega
    refine ⟨?_, h.dn, fun d hd => ?_⟩
    · intro j hj
      by_cases c : j = b.toNat
      · subst c; rw [upd_same]; omega
      · rw [upd_ne _ _ c]; exact h.nn j hj
    · by_cases c : D b.toNat ≤ d
      · have h1 := h.safe d (by omega)
        have h2 := sumN_one (n := n) (k := b.toNat) hbn (f := fun i => wgt (x i) (upd L b.toNat (L b.toNat - 1) i) (D i) (N i) (t + 1) d) (g := fun i => wgt (x i) (L i) (D i) (N i) t d) (fun j hj hn => by
          have := h.done j hj
          simp only [upd_ne _ _ hn, wgt]; rw [show max (N j) (t + 1) = max (N j) t by omega])
        have h3 : wgt (x b.toNat) (upd L b.toNat (L b.toNat - 1) b.toNat) (D b.toNat) (N b.toNat) (t + 1) d - wgt (x b.toNat) (L b.toNat) (D b.toNat) (N b.toNat) t d = -1 := by
          have := h.done b.toNat hbn
          simp only [upd_same, wgt]; rw [show max (N b.toNat) (t + 1) = max (N b.toNat) t by omega, if_pos c, if_pos c]; omega
        try simp only at h2
        omega
      · have h1 := hf (d - (t + 1)) (by omega)
        have h2 := sumN_le (n := n) (f := fun i => wgt (x i) (upd L b.toNat (L b.toNat - 1) i) (D i) (N i) (t + 1) d) (g := fun i => due1 (d - (t + 1)) (x i)) (fun i hi => by
          have := hnb d hd i hi
          by_cases e : i = b.toNat
          · subst e; simp only [wgt]; rw [if_neg c]; omega
          · simp only [wgt, upd_ne _ _ e]
            by_cases l0 : L i = 0
            · rw [l0]; split <;> omega
            · have := hb3 i hi (by have := h.nn i hi; omega)
              rw [if_neg (by omega)]; omega)
        omega

end Go.Proofs.YtddepomgaeadpaaGreatDoor.LoadMath
