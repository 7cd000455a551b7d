/- The law TickSame: its pure statement. -/
import Derived.Test.YtjkicgbmdloomaaTickC
import Derived.Test.YtjkicgbmdloomaaPTickx11
namespace Go.Proofs.Ytjkicgbmdloomaa.TickE
open Go.RowKit Go.Proofs.Ytjkicgbmdloomaa.PTick Go.Proofs.Ytjkicgbmdloomaa.Math Go.Proofs.Ytjkicgbmdloomaa.TickA Go.Proofs.Ytjkicgbmdloomaa.TickC Go.Proofs.YtjkicgbmdloomaaW.PrintWords Go.Proofs.YtjkicgbmdloomaaW.PrintLast

/-- A list that begins at another place. -/
def rot (l : List Int) (s : Nat) : List Int := l.drop s ++ l.take s
theorem rot_length (l : List Int) (s : Nat) (h : s ≤ l.length) : (rot l s).length = l.length := by
  simp [rot]; omega
theorem rot_sum (l : List Int) (s : Nat) : (rot l s).sum = l.sum := by
  have : l.sum = (l.take s).sum + (l.drop s).sum := by rw [← List.sum_append, List.take_append_drop]
  rw [this, rot, List.sum_append]; omega
theorem rot_get (l : List Int) (s i : Nat) (hs : s < l.length) (hi : i < l.length) : (rot l s)[i]'(by rw [rot_length _ _ (by omega)]; exact hi) = l[(i + s) % l.length]'(Nat.mod_lt _ (by omega)) := by
  unfold rot
  by_cases h : i < l.length - s
  · rw [List.getElem_append_left (by simpa using h)]
    simp only [List.getElem_drop]
    congr 1
    rw [Nat.mod_eq_of_lt (by omega)]; omega
  · rw [List.getElem_append_right (by simpa using h)]
    simp only [List.getElem_take, List.length_drop]
    congr 1
    have : i + s = (i + s - l.length) + l.length := by omega
    rw [this, Nat.add_mod_right, Nat.mod_eq_of_lt (by omega)]; omega

theorem same_l (a : Int) (l : List Int) (t : Int) (hl : ∀ x ∈ l, Fits x) (hn : l.length ≤ 20) (s : Nat) (hs : l.length ≠ 0 → s < l.length ∧ Int.tmod (wrap64 (Int.tmod t l.length + l.length)) l.length = s)
    (p q : Int) (b c : Bool) (d : Nat) : ∀ (k i : Nat), i + d = l.length → d + 25 < k →
    hortatorlaw1_TickSame.l0 k a l t p b p b q c q c a true a true (l.length : Int) ((rot l s).take i) (i : Int) = some true := by
  induction d with
  | zero =>
    intro k i hi hk
    obtain ⟨k, rfl⟩ : ∃ m, k = m + 1 := ⟨k - 1, by omega⟩
    obtain rfl : i = l.length := by omega
    have hr : (rot l s).take l.length = rot l s := by
      apply List.take_of_length_le
      by_cases h0 : l.length = 0
      · have : l = [] := List.eq_nil_of_length_eq_zero h0
        subst this; simp [rot]
      · rw [rot_length _ _ (by have := (hs h0).1; omega)]; exact Nat.le_refl _
    have hrl : (rot l s).length ≤ 20 := by
      have : (rot l s).length ≤ l.length := by rw [← hr, List.length_take]; omega
      omega
    have hrf : ∀ x ∈ rot l s, Fits x := by
      intro x hx
      unfold rot at hx
      rcases List.mem_append.1 hx with h | h
      · exact hl x (List.mem_of_mem_drop h)
      · exact hl x (List.mem_of_mem_take h)
    rw [hr]
    simp only [hortatorlaw1_TickSame.l0]
    rw [if_neg (by omega), sum_f l hl (by omega) k (by omega), sum_f _ hrf (by omega) k (by omega), rot_sum]
    simp
  | succ d ih =>
    intro k i hi hk
    obtain ⟨k, rfl⟩ : ∃ m, k = m + 1 := ⟨k - 1, by omega⟩
    have hlt : i < l.length := by omega
    obtain ⟨s1, s2⟩ := hs (by omega)
    simp only [hortatorlaw1_TickSame.l0]
    have w1 : wrap64 ((i : Int) + s) = ((i + s : Nat) : Int) := by unfold wrap64; omega
    have w2 : Int.tmod ((i + s : Nat) : Int) (l.length : Int) = (((i + s) % l.length : Nat) : Int) := by
      rw [Int.tmod_eq_emod_of_nonneg (by omega)]; omega
    have w3 : wrap64 ((i : Int) + 1) = ((i + 1 : Nat) : Int) := by unfold wrap64; omega
    have m1 := Nat.mod_lt (i + s) (show l.length > 0 by omega)
    have hlen : ((rot l s).take i).length = i := by rw [List.length_take, rot_length _ _ (by omega)]; omega
    rw [s2, w1, w2, w3, if_pos (by omega), if_neg (by omega), if_pos (by omega), if_pos (by omega), if_pos (by omega), rd_eq l _ m1]
    have : (rot l s).take i ++ [l[(i + s) % l.length]] = (rot l s).take (i + 1) := by
      rw [List.take_succ_eq_append_getElem (by rw [rot_length _ _ (by omega)]; exact hlt), rot_get l s i s1 hlt]
    rw [this]
    exact ih k (i + 1) (by omega) (by omega)

theorem TickSame_pure : hortatorlaw1_TickSame.Pure := by
  intro a b l t ha hb _ _ h3 _
  have ha := fits_of_wf ha
  have hb := fits_of_wf hb
  refine ⟨60, ?_⟩
  unfold hortatorlaw1_TickSame.f
  rw [begun_at 60 (by omega)]; simp only [Option.bind_some, if_true]
  have hm : mn (l.length : Int) 20 = ((min l.length 20 : Nat) : Int) := by unfold mn; omega
  rw [hm]
  have hl : ∀ x ∈ l.take (min l.length 20), Fits x := fun x hx => fits_of_wf (h3 x (List.mem_of_mem_take hx))
  have hn : (l.take (min l.length 20)).length = min l.length 20 := by rw [List.length_take]; omega
  have f0 : Fits 0 := ⟨by omega, by omega⟩
  have f1 : Fits 1 := ⟨by omega, by omega⟩
  have na : nar a = (a, true) := by unfold nar; exact if_pos ha
  rw [add_f ha hb, add_f hb ha, mul_f ha hb, mul_f hb ha, add_f ha f0, mul_f ha f1, Int.add_zero, Int.mul_one, Int.add_comm b a, Int.mul_comm b a, na]
  simp only [Option.bind_some]
  rw [if_pos (by omega), if_pos (by omega), Int.toNat_natCast]
  generalize l.take (min l.length 20) = m at *
  rw [← hn]
  have hml : m.length ≤ 20 := by omega
  have key : ∃ s : Nat, m.length ≠ 0 → s < m.length ∧ Int.tmod (wrap64 (Int.tmod t m.length + m.length)) m.length = s := by
    by_cases h0 : m.length = 0
    · exact ⟨0, fun h => absurd h0 h⟩
    · have p1 := Int.tmod_lt_of_pos t (b := (m.length : Int)) (by omega)
      have p2 := Int.tmod_lt_of_pos (-t) (b := (m.length : Int)) (by omega)
      rw [Int.neg_tmod] at p2
      have w : wrap64 (Int.tmod t m.length + m.length) = Int.tmod t m.length + m.length := by unfold wrap64; omega
      have q1 := Int.tmod_lt_of_pos (Int.tmod t m.length + m.length) (b := (m.length : Int)) (by omega)
      have q2 := Int.tmod_nonneg (m.length : Int) (a := Int.tmod t m.length + m.length) (by omega)
      refine ⟨(Int.tmod (Int.tmod t m.length + m.length) m.length).toNat, fun _ => ⟨by omega, ?_⟩⟩
      rw [w]; omega
  obtain ⟨s, hs⟩ := key
  have := same_l a m t hl hml s hs (nar (a + b)).1 (nar (a * b)).1 (nar (a + b)).2 (nar (a * b)).2 m.length 60 0 (by omega) (by omega)
  simpa using this
end Go.Proofs.Ytjkicgbmdloomaa.TickE
