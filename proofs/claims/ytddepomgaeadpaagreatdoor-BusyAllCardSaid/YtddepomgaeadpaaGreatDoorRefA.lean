/- hortatorref7: Time, Asked: what each computes. -/
import Derived.Test.YtddepomgaeadpaaGreatDoorRefA0
import Derived.Test.YtddepomgaeadpaaGreatDoorPAllx5
namespace Go.Proofs.YtddepomgaeadpaaGreatDoor.LoadMath
open Go.RowKit Go.Proofs.YtddepomgaeadpaaGreatDoorW.PrintWords Go.Proofs.YtddepomgaeadpaaGreatDoorW.PrintMore Go.Proofs.YtddepomgaeadpaaGreatDoor.PAll
set_option linter.unusedVariables false
theorem rtime_l1 {l : List S31} {t : Int} (hO : Ok (lds l)) (hlen : l.length ≤ 24) (ht : 1 ≤ t) (ht2 : t ≤ 20000) (k d : Nat) : ∀ (i : Nat) (n : Int), i + d = l.length → 0 ≤ n → n + asked (lds (l.drop i)) t ≤ 14400000000 →
    hortatorref7_Time.l1 (k + d) l t n (i : Int) = hortatorref7_Time.l1 k l t (n + asked (lds (l.drop i)) t) (l.length : Int) := by
  induction d with
  | zero =>
    intro i n hi hn hb
    rw [List.drop_eq_nil_of_le (by omega), show i = l.length by omega]
    have : asked (lds []) t = 0 := rfl
    rw [this, Int.add_zero, Nat.add_zero]
  | succ d ih =>
    intro i n hi hn hb
    have hlt : i < l.length := by omega
    have hx : ok (ld (l.getD i z31)) := ok_getD hO hlt
    have hd := getD_drop (l := l) (k := i) hlt
    have a2 := asked_nonneg (okD hO (i + 1)) (show 0 ≤ t by omega)
    have a1 := ask1_nonneg hx (show 0 ≤ t by omega)
    rw [hd, lds_cons, asked_cons] at hb ⊢
    rw [← Nat.add_assoc, hortatorref7_Time.l1, if_pos (by omega), if_pos (by omega), rd_nat]
    generalize l.getD i z31 = x at *
    have hT : 1 ≤ x.f2 ∧ x.f2 ≤ 200 ∧ 1 ≤ x.f0 := by obtain ⟨h1, h2, h3, h4, h5⟩ := hx; simp only [ld] at *; omega
    obtain ⟨hT, hT2, hc⟩ := hT
    have q1 : 0 ≤ (t - 1) / x.f2 := Int.ediv_nonneg (by omega) (by omega)
    have q2 : (t - 1) / x.f2 ≤ t - 1 := Int.ediv_le_self _ (by omega)
    rw [if_neg (by omega), w64 (x := t - 1) (by omega) (by omega), Int.tdiv_eq_ediv_of_nonneg (by omega), w64 (x := (t - 1) / x.f2) (by omega) (by omega), w64 (x := (t - 1) / x.f2 + 1) (by omega) (by omega), ref_rel (by omega) (by omega)]
    have e1 : x.f0 * rel t x.f2 = ask1 t (ld x) := rfl
    rw [e1, w64 (x := ask1 t (ld x)) (by omega) (by omega), w64 (x := n + ask1 t (ld x)) (by omega) (by omega), w64 (x := (i : Int) + 1) (by omega) (by omega), show ((i : Int) + 1) = ((i + 1 : Nat) : Int) by omega, ih (i + 1) _ (by omega) (by omega) (by omega), Int.add_assoc]
theorem rtime_l0 {l : List S31} (hM : May (lds l)) (hne : lds l ≠ []) (n : Nat) : ∀ (t : Int) (k : Nat), 1 ≤ t → (∀ s, 1 ≤ s → s < t → s < asked (lds l) s) → (20001 - t).toNat ≤ n → n * 26 < k → hortatorref7_Time.l0 k l t = some (timeV (lds l)) := by
  have hlen : l.length ≤ 24 := by have := hM.1; rwa [lds_length] at this
  induction n with
  | zero =>
    intro t k ht hs hn hk
    obtain ⟨k, rfl⟩ : ∃ m, k = m + 1 := ⟨k - 1, by omega⟩
    rw [hortatorref7_Time.l0, if_neg (by omega), timeV_no hM hne (fun s s1 s2 => hs s s1 (by omega))]
  | succ n ih =>
    intro t k ht hs hn hk
    obtain ⟨k, rfl⟩ : ∃ m, k = m + 1 + l.length + 1 := ⟨k - l.length - 2, by omega⟩
    rw [hortatorref7_Time.l0]
    by_cases c : t ≤ 20000
    · have hb := asked_nat_le hM.2 hM.1 (show 0 ≤ t by omega) (by omega)
      have := rtime_l1 hM.2 hlen ht c (k + 1) l.length 0 0 (by omega) (by omega) (by rw [List.drop_zero]; omega)
      rw [List.drop_zero, Int.zero_add] at this
      rw [if_pos c]
      refine Eq.trans this ?_
      rw [hortatorref7_Time.l1, if_neg (by omega)]
      by_cases e : asked (lds l) t = t
      · rw [if_pos e, timeV_busy hM hne ⟨ht, c, by omega, hs⟩]
      · rw [if_neg e]
        have hgt : t < asked (lds l) t := by
          by_cases t1 : t = 1
          · have := asked_pos hM.2 hne ht; omega
          · have g := hs (t - 1) (by omega) (by omega)
            have := asked_mono hM.2 (show t - 1 ≤ t by omega); omega
        exact ih (asked (lds l) t) k (by omega) (fun s s1 s2 => by
          by_cases c2 : s < t
          · exact hs s s1 c2
          · have := asked_mono hM.2 (show t ≤ s by omega); omega) (by omega) (by omega)
    · rw [if_neg c, timeV_no hM hne (fun s s1 s2 => hs s s1 (by omega))]
theorem rtime_f {l : List S31} (hl : l.length ≤ 1000) {k : Nat} (hk : 530000 ≤ k) : hortatorref7_Time.f k l = some (timeV (lds l)) := by
  unfold hortatorref7_Time.f
  obtain ⟨k', hk'⟩ : ∃ m, k = m + 1 := ⟨k - 1, by omega⟩
  by_cases hM : May (lds l)
  · rw [rloads_may hM (by omega), Option.bind_some, if_pos rfl, hk', hortatorref7_Time.j0]
    by_cases e : l = []
    · subst e; rw [if_pos (by rfl), rloads_may hM (by omega), Option.bind_some, lds_nil, timeV_nil]
    · have hl : 0 < l.length := List.length_pos_iff.mpr e
      rw [if_neg (by simp; exact e)]
      exact rtime_l0 hM (fun h => e (by simpa [lds] using h)) 20000 1 k' (by omega) (fun s s1 s2 => by omega) (by omega) (by omega)
  · rw [rloads_not hM hl (by omega), Option.bind_some, if_neg (by decide), hk', hortatorref7_Time.j0, if_pos rfl, rloads_not hM hl (by omega), Option.bind_some, timeV_bad hM]

theorem rask_l1 {l : List S31} {t : Int} {i : Nat} (hi : i < l.length) (hl : l.length ≤ 24) (hx : ok (ld (l.getD i z31))) (ht : 0 ≤ t) (ht2 : t ≤ 20000) (k m : Nat) : ∀ a n : Int, 0 ≤ a → a < t + (l.getD i z31).f2 → rel (t - a) (l.getD i z31).f2 = m → 0 ≤ n → n + (l.getD i z31).f0 * m ≤ 14400000000 →
    hortatorref7_Asked.l1 (k + m + 1) l t n (i : Int) a = hortatorref7_Asked.l0 k l t (n + (l.getD i z31).f0 * m) ((i + 1 : Nat) : Int) := by
  obtain ⟨h1, h2, h3, h4, h5⟩ := hx
  simp only [ld] at h1 h2 h3 h4 h5
  induction m with
  | zero =>
    intro a n ha hat hm hn hb
    have c : ¬ a < t := fun c => by have := rel_pos (s := t - a) (t := (l.getD i z31).f2) (by omega) (by omega); omega
    rw [Nat.add_zero, hortatorref7_Asked.l1, if_neg c, w64 (x := (i : Int) + 1) (by omega) (by omega), Int.natCast_zero, Int.mul_zero, Int.add_zero, show ((i : Int) + 1) = ((i + 1 : Nat) : Int) by omega]
  | succ m ih =>
    intro a n ha hat hm hn hb
    have c : a < t := by
      apply Classical.byContradiction
      intro c
      have := rel_zero (s := t - a) (t := (l.getD i z31).f2) (by omega) (by omega); omega
    have st := rel_step (s := t - a) (t := (l.getD i z31).f2) (by omega)
    have e2 : (l.getD i z31).f0 * ((m + 1 : Nat) : Int) = (l.getD i z31).f0 * (m : Int) + (l.getD i z31).f0 := by rw [Int.natCast_add, Int.mul_add]; simp
    have nn : 0 ≤ (l.getD i z31).f0 * (m : Int) := Int.mul_nonneg (by omega) (by omega)
    rw [e2] at hb ⊢
    rw [← Nat.add_assoc, hortatorref7_Asked.l1, if_pos c, if_pos (by omega), if_pos (by omega), rd_nat, w64 (x := n + (l.getD i z31).f0) (by omega) (by omega), w64 (x := a + (l.getD i z31).f2) (by omega) (by omega), ih (a + (l.getD i z31).f2) _ (by omega) (by omega) (by rw [show t - (a + (l.getD i z31).f2) = t - a - (l.getD i z31).f2 by omega]; omega) (by omega) (by omega)]
    rw [show n + (l.getD i z31).f0 + (l.getD i z31).f0 * (m : Int) = n + ((l.getD i z31).f0 * (m : Int) + (l.getD i z31).f0) by omega]
set_option maxRecDepth 100000 in
theorem rask_l0 {l : List S31} {t : Int} (hM : May (lds l)) (ht : 0 ≤ t) (ht2 : t ≤ 20000) (d : Nat) : ∀ (i : Nat) (n : Int) (k : Nat), i + d = l.length → d * 20010 + 100 ≤ k → 0 ≤ n → n + asked (lds (l.drop i)) t ≤ 14400000000 →
    hortatorref7_Asked.l0 k l t n (i : Int) = some (n + asked (lds (l.drop i)) t) := by
  have hlen : l.length ≤ 24 := by have := hM.1; rwa [lds_length] at this
  induction d with
  | zero =>
    intro i n k hi hk hn hb
    obtain ⟨k, rfl⟩ : ∃ m, k = m + 1 + 1 := ⟨k - 2, by omega⟩
    rw [hortatorref7_Asked.l0, if_neg (by omega), hortatorref7_Asked.j1, if_neg (by decide), List.drop_eq_nil_of_le (by omega)]
    simp [lds, asked]
  | succ d ih =>
    intro i n k hi hk hn hb
    have hlt : i < l.length := by omega
    have hx : ok (ld (l.getD i z31)) := ok_getD hM.2 hlt
    have hd := getD_drop (l := l) (k := i) hlt
    have a2 := asked_nonneg (okD hM.2 (i + 1)) ht
    have a1 := ask1_nonneg hx ht
    rw [hd, lds_cons, asked_cons] at hb ⊢
    have hx' := hx
    obtain ⟨h1, h2, h3, h4, h5⟩ := hx'
    simp only [ld] at h1 h2 h3 h4 h5
    have r0 := rel_nonneg (s := t) (t := (l.getD i z31).f2) (by omega) ht
    have r1 := rel_le (s := t) (t := (l.getD i z31).f2) ht (by omega)
    obtain ⟨m, hm⟩ : ∃ m : Nat, rel t (l.getD i z31).f2 = m := ⟨(rel t (l.getD i z31).f2).toNat, by omega⟩
    obtain ⟨k, rfl⟩ : ∃ k', k = k' + m + 1 + 1 + 1 := ⟨k - m - 3, by omega⟩
    have e1 : ask1 t (ld (l.getD i z31)) = (l.getD i z31).f0 * (m : Int) := by rw [← hm]; rfl
    rw [e1] at hb a1 ⊢
    have hin : hortatorref7_in.f t 0 20000 = some true := by unfold hortatorref7_in.f; rw [if_pos ht, decide_eq_true ht2]
    rw [hortatorref7_Asked.l0, if_pos (by omega), rloads_may hM (by omega), Option.bind_some, if_pos rfl, hin, Option.bind_some, hortatorref7_Asked.j1, if_pos rfl, rask_l1 hlt hlen hx ht ht2 k m 0 n (by omega) (by omega) (by rw [Int.sub_zero]; exact hm) hn (by omega), ih (i + 1) _ k (by omega) (by omega) (by omega) (by omega)]
    congr 1; omega
theorem rask_f {l : List S31} {t : Int} (hl : l.length ≤ 24) {k : Nat} (hk : 500000 ≤ k) : hortatorref7_Asked.f k l t = busy_Asked.f k l t := by
  by_cases hM : May (lds l)
  · by_cases h1 : 0 ≤ t ∧ t ≤ 20000
    · rw [asked_f hM h1.1 h1.2 (by omega)]
      unfold hortatorref7_Asked.f
      have hb := asked_nat_le hM.2 hM.1 h1.1 (by omega)
      have := rask_l0 hM h1.1 h1.2 l.length 0 0 k (by omega) (by omega) (by omega) (by rw [List.drop_zero]; omega)
      rw [List.drop_zero, Int.zero_add] at this
      exact this
    · rw [asked_bad (by omega) (by omega)]
      unfold hortatorref7_Asked.f
      obtain ⟨k, rfl⟩ : ∃ m, k = m + 1 + 1 := ⟨k - 2, by omega⟩
      have hin : hortatorref7_in.f t 0 20000 = some false := by
        unfold hortatorref7_in.f
        by_cases c : t ≥ 0
        · rw [if_pos c, decide_eq_false (by omega)]
        · rw [if_neg c]
      have out : hortatorref7_Asked.j1 (k + 1) l t 0 0 false = some 0 := by rw [hortatorref7_Asked.j1, if_neg (by decide)]
      rw [hortatorref7_Asked.l0, rloads_may hM (by omega), Option.bind_some, if_pos rfl, hin, Option.bind_some, out]
      split <;> rfl
  · rw [asked_bad (Or.inl hM) (by omega)]
    unfold hortatorref7_Asked.f
    obtain ⟨k, rfl⟩ : ∃ m, k = m + 1 + 1 := ⟨k - 2, by omega⟩
    have out : hortatorref7_Asked.j1 (k + 1) l t 0 0 false = some 0 := by rw [hortatorref7_Asked.j1, if_neg (by decide)]
    have e : (false = true) = False := by simp
    rw [hortatorref7_Asked.l0, rloads_not hM (by omega) (by omega), Option.bind_some, out, if_neg (c := false = true) (by decide)]
    split <;> rfl

end Go.Proofs.YtddepomgaeadpaaGreatDoor.LoadMath
