/- BusyRun: the plain statement. -/
import Derived.Test.YtddepomgaeadpaaGreatDoorPu
import Derived.Test.YtddepomgaeadpaaGreatDoorPAllx6
import Derived.Test.YtddepomgaeadpaaGreatDoorRefA
namespace Go.Proofs.YtddepomgaeadpaaGreatDoor.Pure
open Go.RowKit Go.Proofs.YtddepomgaeadpaaGreatDoorW.PrintWords Go.Proofs.YtddepomgaeadpaaGreatDoorW.PrintMore Go.Proofs.YtddepomgaeadpaaGreatDoor.LoadMath Go.Proofs.YtddepomgaeadpaaGreatDoor.PAll Go.Proofs.YtddepomgaeadpaaGreatDoor.On
set_option linter.unusedVariables false
theorem sum_cons (f : Ld → Int) (x : Ld) (l : List Ld) : ((x :: l).map f).sum = f x + (l.map f).sum := by simp
theorem run_l1 {l : List S31} {s T : Int} {b : Bool} (hO : Ok (lds l)) (hlen : l.length ≤ 24) (hs : 0 ≤ s) (hs2 : s ≤ 20000) (k d : Nat) : ∀ (i : Nat) (n : Int), i + d = l.length → 0 ≤ n → n ≤ 14400000000 + i * 20000 →
    hortatorlaw9_BusyRun.l1 (k + d) l T b n s (i : Int) = hortatorlaw9_BusyRun.l1 k l T b (n + ((lds (l.drop i)).map (askAt s)).sum) s (l.length : Int) := by
  induction d with
  | zero =>
    intro i n hi hn hb
    rw [List.drop_eq_nil_of_le (by omega), show i = l.length by omega]
    have : ((lds []).map (askAt s)).sum = 0 := rfl
    rw [this, Int.add_zero, Nat.add_zero]
  | succ d ih =>
    intro i n hi hn hb
    have hlt : i < l.length := by omega
    have hx : ok (ld (l.getD i z31)) := ok_getD hO hlt
    have hd := getD_drop (l := l) (k := i) hlt
    have a1 := askAt_nonneg hx s
    have a3 := askAt_le hx s
    rw [hd, lds_cons, sum_cons]
    rw [← Nat.add_assoc, hortatorlaw9_BusyRun.l1, if_pos (by omega), if_pos (by omega), rd_nat]
    have hx' := hx
    obtain ⟨h1, h2, h3, h4, h5⟩ := hx'
    simp only [ld] at h1 h2 h3 h4 h5
    have go : hortatorlaw9_BusyRun.l1 (k + d) l T b (n + askAt s (ld (l.getD i z31))) s (wrap64 ((i : Int) + 1)) = hortatorlaw9_BusyRun.l1 k l T b (n + (askAt s (ld (l.getD i z31)) + ((lds (l.drop (i + 1))).map (askAt s)).sum)) s (l.length : Int) := by
      rw [w64 (x := (i : Int) + 1) (by omega) (by omega), show ((i : Int) + 1) = ((i + 1 : Nat) : Int) by omega, ih (i + 1) _ (by omega) (by omega) (by omega), Int.add_assoc]
    rw [if_neg (by omega), Int.tmod_eq_emod_of_nonneg (by omega)]
    by_cases c2 : s % (l.getD i z31).f2 = 0
    · have e : askAt s (ld (l.getD i z31)) = (l.getD i z31).f0 := by unfold askAt; exact if_pos c2
      rw [if_pos c2, w64 (x := n + (l.getD i z31).f0) (by omega) (by omega), ← e]
      exact go
    · have e : askAt s (ld (l.getD i z31)) = 0 := by unfold askAt; exact if_neg c2
      rw [if_neg c2]
      rw [e] at go ⊢
      rw [Int.add_zero] at go
      exact go
theorem run_l0 {l : List S31} {T : Int} {b : Bool} (hM : May (lds l)) (hne : lds l ≠ []) (hT : timeV (lds l) = (T, b)) (n : Nat) : ∀ (s : Int) (k : Nat), 0 ≤ s → s ≤ asked (lds l) s → (∀ r, 1 ≤ r → r < s → r < asked (lds l) r) → (3001 - s).toNat ≤ n → n * 40 + 2 < k →
    hortatorlaw9_BusyRun.l0 k l T b (asked (lds l) s - s) s = some true := by
  have hlen : l.length ≤ 24 := by have := hM.1; rwa [lds_length] at this
  have fin : ∀ (s : Int) (k : Nat), ¬ s ≤ 3000 → (∀ r, 1 ≤ r → r < s → r < asked (lds l) r) → 0 < k → hortatorlaw9_BusyRun.l0 k l T b (asked (lds l) s - s) s = some true := by
    intro s k c hr hk
    obtain ⟨k, rfl⟩ : ∃ m, k = m + 1 := ⟨k - 1, by omega⟩
    rw [hortatorlaw9_BusyRun.l0, if_neg c]
    cases b
    · rfl
    · rw [if_pos rfl]
      have ht := timeV_ok (l := lds l) (by rw [hT])
      rw [hT] at ht
      simp only at ht
      rcases ht.2 with ⟨h1, h2⟩ | ⟨h1, h2⟩
      · exact absurd h1 hne
      · have : T > 3000 := by
          apply Classical.byContradiction
          intro z
          have := hr T h2.1 (by omega)
          have := h2.2.2.1; omega
        rw [decide_eq_true this]
  induction n with
  | zero =>
    intro s k h0 hs hr hn hk
    exact fin s k (by omega) hr (by omega)
  | succ n ih =>
    intro s k h0 hs hr hn hk
    by_cases c : s ≤ 3000
    · obtain ⟨k, rfl⟩ : ∃ m, k = m + 1 + l.length + 1 + 1 := ⟨k - l.length - 3, by omega⟩
      have hb := asked_nat_le hM.2 hM.1 h0 (by omega)
      have hb1 := asked_nat_le hM.2 hM.1 (show 0 ≤ s + 1 by omega) (by omega)
      have am := asked_mono hM.2 (show s ≤ s + 1 by omega)
      have tick := asked_tick hM.2 h0
      have on : (s = 0 ∨ s < asked (lds l) s) → hortatorlaw9_BusyRun.j2 (k + 1 + l.length + 1) l T b (asked (lds l) s - s) s false = some true := by
        intro hh
        have ge : s + 1 ≤ asked (lds l) (s + 1) := by
          rcases hh with z | z
          · rw [z]; exact asked_pos hM.2 hne (by omega)
          · omega
        rw [hortatorlaw9_BusyRun.j2, if_neg (by decide)]
        have := run_l1 (T := T) (b := b) hM.2 hlen h0 (by omega) (k + 1) l.length 0 (asked (lds l) s - s) (by omega) (by omega) (by omega)
        rw [List.drop_zero] at this
        refine Eq.trans this ?_
        rw [hortatorlaw9_BusyRun.l1, if_neg (by omega), show asked (lds l) s - s + ((lds l).map (askAt s)).sum = asked (lds l) (s + 1) - s by omega, w64 (x := asked (lds l) (s + 1) - s - 1) (by omega) (by omega), w64 (x := s + 1) (by omega) (by omega), show asked (lds l) (s + 1) - s - 1 = asked (lds l) (s + 1) - (s + 1) by omega]
        refine ih (s + 1) k (by omega) ge (fun r r1 r2 => ?_) (by omega) (by omega)
        by_cases z : r < s
        · exact hr r r1 z
        · rw [show r = s by omega] at r1 ⊢
          rcases hh with y | y
          · omega
          · exact y
      rw [hortatorlaw9_BusyRun.l0, if_pos c]
      by_cases p : s > 0
      · rw [if_pos p]
        by_cases e : asked (lds l) s - s = 0
        · have hB : IsBusy (lds l) s := ⟨by omega, by omega, by omega, hr⟩
          rw [timeV_busy hM hne hB] at hT
          cases hT
          rw [e, hortatorlaw9_BusyRun.j2, if_pos (by rfl), if_pos rfl]
          simp
        · have : (asked (lds l) s - s == 0) = false := by simpa using e
          rw [this]
          exact on (Or.inr (by omega))
      · rw [if_neg p]
        exact on (Or.inl (by omega))
    · exact fin s k c hr (by omega)
theorem BusyRun (l0 : List S31) (u0 : ∀ x ∈ l0, I64 x.f0 ∧ I64 x.f1 ∧ I64 x.f2) : ∃ k, hortatorlaw9_BusyRun.f k l0 = some true := by
  refine ⟨K, ?_⟩
  unfold hortatorlaw9_BusyRun.f
  rw [b9, Option.bind_some, if_pos rfl, loads_f, Option.bind_some]
  have l10 := len10 l0
  generalize l0.take 10 = l at *
  rw [time_f _ (by decide), Option.bind_some]
  obtain ⟨k', hk'⟩ : ∃ m, K = m + 1 := ⟨K - 1, by decide⟩
  have hk2 : 599999 = k' := by have := pK; omega
  by_cases hM : May (lds l)
  · rw [rloads_may hM (by decide), Option.bind_some, if_pos rfl, hk', hortatorlaw9_BusyRun.j0]
    by_cases e : l = []
    · subst e
      rw [if_pos (by rfl), lds_nil, timeV_nil, if_pos rfl, rloads_may hM (by omega)]; rfl
    · have hne : lds l ≠ [] := fun h => e (by simpa [lds] using h)
      rw [if_neg (by simp; exact e)]
      have := run_l0 (T := (timeV (lds l)).1) (b := (timeV (lds l)).2) hM hne rfl 3001 0 k' (by omega) (by rw [asked_zero hM.2]; omega) (fun r r1 r2 => by omega) (by omega) (by omega)
      rw [asked_zero hM.2] at this
      exact this
  · rw [rloads_not hM (by omega) (by decide), Option.bind_some, if_neg (by decide), timeV_bad hM, hk', hortatorlaw9_BusyRun.j0, if_pos rfl, if_pos rfl, rloads_not hM (by omega) (by omega)]; rfl
end Go.Proofs.YtddepomgaeadpaaGreatDoor.Pure
