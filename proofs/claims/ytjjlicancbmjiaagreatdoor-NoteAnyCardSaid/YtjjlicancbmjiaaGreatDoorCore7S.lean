/- What the functions of layer 7 and their references compute, in plain words: the same tasks. -/
import Derived.Test.YtjjlicancbmjiaaGreatDoorCore7A
import Derived.Test.YtjjlicancbmjiaaGreatDoorL4
import Derived.Test.YtjjlicancbmjiaaGreatDoorPBegx13
namespace Go.Proofs.YtjjlicancbmjiaaGreatDoor.PBeg
open Go.RowKit Go.Proofs.YtjjlicancbmjiaaGreatDoorW.PrintWords Go.Proofs.YtjjlicancbmjiaaGreatDoorW.PrintLast Go.Proofs.YtjjlicancbmjiaaGreatDoorW.PrintMore
set_option linter.unusedVariables false
set_option linter.unusedSimpArgs false
/-! ### the same -/
theorem ne_s (s t : S43) (h : s ≠ t) : (!(s.f0 == t.f0) || (!(s.f1 == t.f1) || (!(s.f2 == t.f2)))) = true := by
  by_cases c : (!(s.f0 == t.f0) || (!(s.f1 == t.f1) || (!(s.f2 == t.f2)))) = true
  · exact c
  · exfalso
    apply h
    cases s; cases t
    simp at c
    simp [c]
theorem eq_s (s : S43) : (!(s.f0 == s.f0) || (!(s.f1 == s.f1) || (!(s.f2 == s.f2)))) = false := by simp
theorem secs_l0 (l m : List S43) (hl : l.length = m.length) (hb : l.length ≤ 1000) : ∀ n i k, i + n = l.length → n < k → (l.drop i = m.drop i → api_Section.l0 k l m l.length (i : Int) = some true) ∧ (l.drop i ≠ m.drop i → api_Section.l0 k l m l.length (i : Int) = some false) := by
  intro n
  induction n with
  | zero =>
    intro i k hi hk
    obtain ⟨q, rfl⟩ := pos_k hk
    have e1 : l.drop i = [] := List.drop_eq_nil_of_le (by omega)
    have e2 : m.drop i = [] := List.drop_eq_nil_of_le (by omega)
    refine ⟨fun _ => ?_, fun h => absurd (e1.trans e2.symm) h⟩
    simp only [api_Section.l0]
    rw [if_neg (by omega)]
  | succ n ih =>
    intro i k hi hk
    obtain ⟨q, rfl⟩ := pos_k hk
    obtain ⟨ih1, ih2⟩ := ih (i + 1) q (by omega) (by omega)
    rw [show ((i + 1 : Nat) : Int) = (i : Int) + 1 by omega] at ih1 ih2
    rw [drop_rd l i (by omega), drop_rd m i (by omega)]
    simp only [api_Section.l0]
    rw [if_pos (by omega), if_pos (by omega), if_pos (by omega), if_pos (by omega), wr64 (by omega) (by omega)]
    by_cases h : rd_T43 l (i : Int) = rd_T43 m (i : Int)
    · rw [h, eq_s, if_neg (by decide)]
      exact ⟨fun e => ih1 (List.cons.inj e).2, fun e => ih2 (fun e2 => e (by rw [e2]))⟩
    · rw [ne_s _ _ h, if_pos rfl]
      exact ⟨fun e => absurd (List.cons.inj e).1 h, fun _ => rfl⟩
theorem same_yes {k : Nat} (x y z : Int) (l : List S43) (hb : l.length ≤ 1000) (hk : l.length < k) : rule_Same.f k x y z l x y z l = some true := by
  unfold rule_Same.f api_Section.f
  rw [if_pos rfl, if_pos rfl, if_pos rfl, if_pos rfl]
  have := (secs_l0 l l rfl hb l.length 0 k (by omega) hk).1 rfl
  rw [show ((0 : Nat) : Int) = 0 by rfl] at this
  rw [this]; rfl
theorem same_no {k : Nat} (x y z x' y' z' : Int) (l m : List S43) (hb : l.length ≤ 1000) (hk : l.length < k) (h : ¬ (x = x' ∧ y = y' ∧ z = z' ∧ l = m)) : rule_Same.f k x y z l x' y' z' m = some false := by
  unfold rule_Same.f
  by_cases h1 : x = x'
  · rw [if_pos h1]
    by_cases h2 : y = y'
    · rw [if_pos h2]
      by_cases h3 : z = z'
      · rw [if_pos h3]
        have h4 : l ≠ m := fun e => h ⟨h1, h2, h3, e⟩
        unfold api_Section.f
        by_cases h5 : (l.length : Int) = (m.length : Int)
        · rw [if_pos h5]
          have := (secs_l0 l m (by omega) hb l.length 0 k (by omega) hk).2 (by simpa using h4)
          rw [show ((0 : Nat) : Int) = 0 by rfl] at this
          rw [this]; rfl
        · rw [if_neg h5]; rfl
      · rw [if_neg h3]
    · rw [if_neg h2]
  · rw [if_neg h1]
end Go.Proofs.YtjjlicancbmjiaaGreatDoor.PBeg
