/- hortatorref7: Bound, Over, Fits: what each computes. -/
import Derived.Test.YtddepomgaeadpaaGreatDoorRefA
import Derived.Test.YtddepomgaeadpaaGreatDoorPAllx8
namespace Go.Proofs.YtddepomgaeadpaaGreatDoor.LoadMath
open Go.RowKit Go.Proofs.YtddepomgaeadpaaGreatDoorW.PrintWords Go.Proofs.YtddepomgaeadpaaGreatDoorW.PrintMore Go.Proofs.YtddepomgaeadpaaGreatDoor.PAll
set_option linter.unusedVariables false
theorem rbound_l1 {l : List S31} {t : Int} {i : Nat} (hi : i < l.length) (hl : l.length ≤ 24) (hx : ok (ld (l.getD i z31))) (ht : 0 ≤ t) (ht2 : t ≤ 20000) (k m : Nat) : ∀ a n : Int, 0 ≤ a → a ≤ 20200 → t - a ≤ m → 0 ≤ n → n + due1 (t - a) (ld (l.getD i z31)) ≤ 14400000000 →
    ∃ k', k ≤ k' ∧ hortatorref7_Bound.l1 (k + m + 1) l t n (i : Int) a = hortatorref7_Bound.l0 k' l t (n + due1 (t - a) (ld (l.getD i z31))) ((i + 1 : Nat) : Int) := by
  have hx' := hx
  obtain ⟨h1, h2, h3, h4, h5⟩ := hx'
  simp only [ld] at h1 h2 h3 h4 h5
  have out : ∀ (k : Nat) (a n : Int), 0 ≤ a → a ≤ 20200 → ¬ a + (l.getD i z31).f1 ≤ t → hortatorref7_Bound.l1 (k + 1) l t n (i : Int) a = hortatorref7_Bound.l0 k l t (n + due1 (t - a) (ld (l.getD i z31))) ((i + 1 : Nat) : Int) := by
    intro k a n ha ha2 c
    have e : due1 (t - a) (ld (l.getD i z31)) = 0 := by unfold due1; rw [if_pos (by simp only [ld]; omega)]
    rw [hortatorref7_Bound.l1, if_pos (by omega), if_pos (by omega), rd_nat, w64 (x := a + (l.getD i z31).f1) (by omega) (by omega), if_neg c, w64 (x := (i : Int) + 1) (by omega) (by omega), e, Int.add_zero, show ((i : Int) + 1) = ((i + 1 : Nat) : Int) by omega]
  induction m with
  | zero =>
    intro a n ha ha2 hm hn hb
    exact ⟨k, Nat.le_refl _, out k a n ha ha2 (by omega)⟩
  | succ m ih =>
    intro a n ha ha2 hm hn hb
    by_cases c : a + (l.getD i z31).f1 ≤ t
    · have st := due1_step (t - a) hx
      rw [if_pos (by simp only [ld]; omega)] at st
      have nn := due1_nonneg (s := t - a - (l.getD i z31).f2) hx
      have st : due1 (t - a) (ld (l.getD i z31)) = (l.getD i z31).f0 + due1 (t - a - (l.getD i z31).f2) (ld (l.getD i z31)) := st
      rw [st] at hb ⊢
      obtain ⟨k', k1, k2⟩ := ih (a + (l.getD i z31).f2) (n + (l.getD i z31).f0) (by omega) (by omega) (by omega) (by omega) (by rw [show t - (a + (l.getD i z31).f2) = t - a - (l.getD i z31).f2 by omega]; omega)
      refine ⟨k', k1, ?_⟩
      rw [← Nat.add_assoc, hortatorref7_Bound.l1, if_pos (by omega), if_pos (by omega), rd_nat, w64 (x := a + (l.getD i z31).f1) (by omega) (by omega), if_pos c, w64 (x := n + (l.getD i z31).f0) (by omega) (by omega), w64 (x := a + (l.getD i z31).f2) (by omega) (by omega), k2, show t - (a + (l.getD i z31).f2) = t - a - (l.getD i z31).f2 by omega, Int.add_assoc]
    · exact ⟨k + (m + 1), by omega, out (k + (m + 1)) a n ha ha2 c⟩
set_option maxRecDepth 100000 in
theorem rbound_l0 {l : List S31} {t : Int} (hM : May (lds l)) (ht : 0 ≤ t) (ht2 : t ≤ 20000) (d : Nat) : ∀ (i : Nat) (n : Int) (k : Nat), i + d = l.length → d * 20010 + 100 ≤ k → 0 ≤ n → n + bound (lds (l.drop i)) t ≤ 14400000000 →
    hortatorref7_Bound.l0 k l t n (i : Int) = some (n + bound (lds (l.drop i)) t) := by
  have hlen : l.length ≤ 24 := by have := hM.1; rwa [lds_length] at this
  induction d with
  | zero =>
    intro i n k hi hk hn hb
    obtain ⟨k, rfl⟩ : ∃ m, k = m + 1 + 1 := ⟨k - 2, by omega⟩
    rw [hortatorref7_Bound.l0, if_neg (by omega), hortatorref7_Bound.j1, if_neg (by decide), List.drop_eq_nil_of_le (by omega)]
    simp [lds, bound]
  | succ d ih =>
    intro i n k hi hk hn hb
    have hlt : i < l.length := by omega
    have hx : ok (ld (l.getD i z31)) := ok_getD hM.2 hlt
    have hd := getD_drop (l := l) (k := i) hlt
    have a2 := bound_nonneg (okD hM.2 (i + 1)) t
    have a1 := due1_nonneg (s := t) hx
    rw [hd, lds_cons, bound_cons] at hb ⊢
    obtain ⟨k, rfl⟩ : ∃ k', k = k' + 20000 + 1 + 1 + 1 := ⟨k - 20003, by omega⟩
    have hin : hortatorref7_in.f t 0 20000 = some true := by unfold hortatorref7_in.f; rw [if_pos ht, decide_eq_true ht2]
    obtain ⟨k', k1, k2⟩ := rbound_l1 hlt hlen hx ht ht2 k 20000 0 n (by omega) (by omega) (by omega) hn (by rw [Int.sub_zero]; omega)
    rw [Int.sub_zero] at k2
    rw [hortatorref7_Bound.l0, if_pos (by omega), rloads_may hM (by omega), Option.bind_some, if_pos rfl, hin, Option.bind_some, hortatorref7_Bound.j1, if_pos rfl, k2, ih (i + 1) _ k' (by omega) (by omega) (by omega) (by omega)]
    congr 1; omega
theorem rbound_f {l : List S31} {t : Int} (hl : l.length ≤ 24) {k : Nat} (hk : 500000 ≤ k) : hortatorref7_Bound.f k l t = demand_Bound.f l t := by
  by_cases hM : May (lds l)
  · by_cases h1 : 0 ≤ t ∧ t ≤ 20000
    · rw [bound_f hM h1.1 h1.2]
      unfold hortatorref7_Bound.f
      have hb := bound_le hM.2 hM.1 h1.1 (by omega)
      have := rbound_l0 hM h1.1 h1.2 l.length 0 0 k (by omega) (by omega) (by omega) (by rw [List.drop_zero]; omega)
      rw [List.drop_zero, Int.zero_add] at this
      exact this
    · rw [bound_bad (by omega)]
      unfold hortatorref7_Bound.f
      obtain ⟨k, rfl⟩ : ∃ m, k = m + 1 + 1 := ⟨k - 2, by omega⟩
      have hin : hortatorref7_in.f t 0 20000 = some false := by
        unfold hortatorref7_in.f
        by_cases c : t ≥ 0
        · rw [if_pos c, decide_eq_false (by omega)]
        · rw [if_neg c]
      have out : hortatorref7_Bound.j1 (k + 1) l t 0 0 false = some 0 := by rw [hortatorref7_Bound.j1, if_neg (by decide)]
      rw [hortatorref7_Bound.l0, rloads_may hM (by omega), Option.bind_some, if_pos rfl, hin, Option.bind_some, out]
      split <;> rfl
  · rw [bound_bad (Or.inl hM)]
    unfold hortatorref7_Bound.f
    obtain ⟨k, rfl⟩ : ∃ m, k = m + 1 + 1 := ⟨k - 2, by omega⟩
    have out : hortatorref7_Bound.j1 (k + 1) l t 0 0 false = some 0 := by rw [hortatorref7_Bound.j1, if_neg (by decide)]
    have e : (false = true) = False := by simp
    rw [hortatorref7_Bound.l0, rloads_not hM (by omega) (by omega), Option.bind_some, out, if_neg (c := false = true) (by decide)]
    split <;> rfl

theorem sum_cons (f : Ld → Int) (x : Ld) (l : List Ld) : ((x :: l).map f).sum = f x + (l.map f).sum := by simp
theorem dueAt_nonneg {x : Ld} (hx : ok x) (s : Int) : 0 ≤ dueAt s x := by
  unfold dueAt
  have := hx.1
  split <;> omega
theorem dueAt_le {x : Ld} (hx : ok x) (s : Int) : dueAt s x ≤ 20000 := by
  unfold dueAt
  have := hx.2.1
  split <;> omega
theorem rover_l1 {l : List S31} {t e : Int} {b : Bool} (hO : Ok (lds l)) (hlen : l.length ≤ 24) (ht : 1 ≤ t) (ht2 : t ≤ 20000) (k d : Nat) : ∀ (i : Nat) (n : Int), i + d = l.length → 0 ≤ n → n ≤ 14400000000 + i * 20000 →
    hortatorref7_Over.l1 (k + d) l e b n t (i : Int) = hortatorref7_Over.l1 k l e b (n + ((lds (l.drop i)).map (dueAt t)).sum) t (l.length : Int) := by
  induction d with
  | zero =>
    intro i n hi hn hb
    rw [List.drop_eq_nil_of_le (by omega), show i = l.length by omega]
    have : ((lds []).map (dueAt t)).sum = 0 := rfl
    rw [this, Int.add_zero, Nat.add_zero]
  | succ d ih =>
    intro i n hi hn hb
    have hlt : i < l.length := by omega
    have hx : ok (ld (l.getD i z31)) := ok_getD hO hlt
    have hd := getD_drop (l := l) (k := i) hlt
    have a1 := dueAt_nonneg hx t
    have a3 := dueAt_le hx t
    rw [hd, lds_cons, sum_cons]
    rw [← Nat.add_assoc, hortatorref7_Over.l1, if_pos (by omega), if_pos (by omega), rd_nat]
    have hx' := hx
    obtain ⟨h1, h2, h3, h4, h5⟩ := hx'
    simp only [ld] at h1 h2 h3 h4 h5
    have go : hortatorref7_Over.l1 (k + d) l e b (n + dueAt t (ld (l.getD i z31))) t (wrap64 ((i : Int) + 1)) = hortatorref7_Over.l1 k l e b (n + (dueAt t (ld (l.getD i z31)) + ((lds (l.drop (i + 1))).map (dueAt t)).sum)) t (l.length : Int) := by
      rw [w64 (x := (i : Int) + 1) (by omega) (by omega), show ((i : Int) + 1) = ((i + 1 : Nat) : Int) by omega, ih (i + 1) _ (by omega) (by omega) (by omega), Int.add_assoc]
    by_cases c1 : t ≥ (l.getD i z31).f1
    · rw [if_pos c1, if_neg (by omega), w64 (x := t - (l.getD i z31).f1) (by omega) (by omega), Int.tmod_eq_emod_of_nonneg (by omega)]
      by_cases c2 : (t - (l.getD i z31).f1) % (l.getD i z31).f2 = 0
      · have e : dueAt t (ld (l.getD i z31)) = (l.getD i z31).f0 := by unfold dueAt; rw [if_pos ⟨c1, c2⟩]; rfl
        rw [if_pos c2, w64 (x := n + (l.getD i z31).f0) (by omega) (by omega), ← e]
        exact go
      · have e : dueAt t (ld (l.getD i z31)) = 0 := by unfold dueAt; rw [if_neg (fun h => c2 h.2)]
        rw [if_neg c2]
        rw [e] at go ⊢
        rw [Int.add_zero] at go
        exact go
    · have e : dueAt t (ld (l.getD i z31)) = 0 := by unfold dueAt; rw [if_neg (fun h => c1 h.1)]
      rw [if_neg c1]
      rw [e] at go ⊢
      rw [Int.add_zero] at go
      exact go
theorem rover_l0 {l : List S31} {e : Int} (hM : May (lds l)) (hT : timeV (lds l) = (e, true)) (he : 0 ≤ e) (he2 : e ≤ 20000) (n : Nat) : ∀ (t : Int) (k : Nat), 1 ≤ t → (∀ s, 0 ≤ s → s < t → bound (lds l) s ≤ s) → (e + 1 - t).toNat ≤ n → n * 26 < k →
    hortatorref7_Over.l0 k l e true (bound (lds l) (t - 1)) t = some ((firstV (lds l)).1, true) := by
  have hlen : l.length ≤ 24 := by have := hM.1; rwa [lds_length] at this
  have good : ∀ (t : Int), 1 ≤ t → (∀ s, 0 ≤ s → s < t → bound (lds l) s ≤ s) → ¬ t ≤ e → (firstV (lds l)).1 = 0 := by
    intro t ht hs c
    rw [firstV_good (by rw [hT]) (fun s s1 s2 => hs s s1 (by rw [hT] at s2; simp only at s2; omega))]
  induction n with
  | zero =>
    intro t k ht hs hn hk
    obtain ⟨k, rfl⟩ : ∃ m, k = m + 1 := ⟨k - 1, by omega⟩
    rw [hortatorref7_Over.l0, if_neg (by omega), good t ht hs (by omega)]
  | succ n ih =>
    intro t k ht hs hn hk
    obtain ⟨k, rfl⟩ : ∃ m, k = m + 1 + l.length + 1 := ⟨k - l.length - 2, by omega⟩
    rw [hortatorref7_Over.l0]
    by_cases c : t ≤ e
    · have b0 := bound_nonneg hM.2 (t - 1)
      have b1 := hs (t - 1) (by omega) (by omega)
      have := rover_l1 (e := e) (b := true) hM.2 hlen ht (by omega) (k + 1) l.length 0 (bound (lds l) (t - 1)) (by omega) b0 (by omega)
      rw [List.drop_zero, ← bound_tick hM.2] at this
      rw [if_pos c]
      refine Eq.trans this ?_
      rw [hortatorref7_Over.l1, if_neg (by omega)]
      by_cases g : bound (lds l) t > t
      · rw [if_pos g, firstV_bad (by rw [hT]) (s := t) ⟨by omega, by rw [hT]; exact c, g, hs⟩]
      · rw [if_neg g, w64 (x := t + 1) (by omega) (by omega)]
        have := ih (t + 1) k (by omega) (fun s s1 s2 => by
          by_cases z : s < t
          · exact hs s s1 z
          · rw [show s = t by omega]; omega) (by omega) (by omega)
        rw [show t + 1 - 1 = t by omega] at this
        exact this
    · rw [if_neg c, good t ht hs c]
theorem rover_ok {l : List S31} (h : (timeV (lds l)).2 = true) {k : Nat} (hk : 530000 ≤ k) : hortatorref7_Over.f k l = some ((firstV (lds l)).1, true) := by
  have hM := (timeV_ok h).1
  have hlen : l.length ≤ 24 := by have := hM.1; rwa [lds_length] at this
  have hT : timeV (lds l) = ((timeV (lds l)).1, true) := by rw [← h]
  obtain ⟨e0, e1⟩ := time_range hT
  unfold hortatorref7_Over.f
  rw [rtime_f (by omega) hk, Option.bind_some, h]
  have := rover_l0 hM hT e0 e1 20000 1 k (by omega) (fun s s1 s2 => by rw [show s = 0 by omega, bound_zero hM.2]; omega) (by omega) (by omega)
  rw [show (1 : Int) - 1 = 0 by omega, bound_zero hM.2] at this
  exact this
theorem rover_bad {l : List S31} (h : (timeV (lds l)).2 = false) (hl : l.length ≤ 1000) {k : Nat} (hk : 530000 ≤ k) : hortatorref7_Over.f k l = some (0, false) := by
  have hT : timeV (lds l) = (0, false) := by
    rcases timeV_cases (lds l) with ⟨_, z⟩ | ⟨_, z⟩ | ⟨_, _, t, _, z⟩ | ⟨_, _, _, z⟩
    · exact z
    · rw [z] at h; cases h
    · rw [z] at h; cases h
    · exact z
  unfold hortatorref7_Over.f
  rw [rtime_f hl hk, Option.bind_some, hT]
  obtain ⟨k, rfl⟩ : ∃ m, k = m + 1 := ⟨k - 1, by omega⟩
  rw [hortatorref7_Over.l0, if_neg (by decide)]
theorem first_zero {L : List Ld} (h : (timeV L).2 = true) : (firstV L).2 = true ↔ 0 < (firstV L).1 := by
  have hM := (timeV_ok h).1
  rcases firstV_cases L with ⟨z, _⟩ | ⟨_, _, z⟩ | ⟨_, s, hs, z⟩
  · rw [z] at h; cases h
  · rw [z]; simp
  · rw [z]
    have : s ≠ 0 := by
      intro e
      have := hs.2.2.1
      rw [e, bound_zero hM.2] at this; omega
    have := hs.1
    simp; omega
theorem first_pos (L : List Ld) : 0 ≤ (firstV L).1 := by
  rcases firstV_cases L with ⟨_, z⟩ | ⟨_, _, z⟩ | ⟨_, s, hs, z⟩
  · rw [z]; exact Int.le_refl _
  · rw [z]; exact Int.le_refl _
  · rw [z]; exact hs.1
theorem rfits_f {l : List S31} (hl : l.length ≤ 1000) {k : Nat} (hk : 530000 ≤ k) : hortatorref7_Fits.f k l = some (fitsV (lds l)) := by
  unfold hortatorref7_Fits.f fitsV
  cases h : (timeV (lds l)).2
  · rw [rover_bad h hl hk, Option.bind_some, if_neg (by decide), Bool.false_and]
  · rw [rover_ok h hk, Option.bind_some, if_pos rfl, Bool.true_and]
    have z := first_zero h
    have p := first_pos (lds l)
    cases e : (firstV (lds l)).2
    · have : ¬ 0 < (firstV (lds l)).1 := fun q => by rw [e] at z; exact absurd (z.mpr q) (by decide)
      have : (firstV (lds l)).1 = 0 := by omega
      rw [this]; rfl
    · have := z.mp e
      have : ((firstV (lds l)).1 == 0) = false := by simp; omega
      rw [this]; rfl
end Go.Proofs.YtddepomgaeadpaaGreatDoor.LoadMath
