/- hortatorref7.Loads: what it computes. -/
import Derived.Test.YtddepomgaeadpaaGreatDoorCoreB
namespace Go.Proofs.YtddepomgaeadpaaGreatDoor.LoadMath
open Go.RowKit Go.Proofs.YtddepomgaeadpaaGreatDoorW.PrintWords Go.Proofs.YtddepomgaeadpaaGreatDoorW.PrintMore Go.Proofs.YtddepomgaeadpaaGreatDoor.PAll
set_option linter.unusedVariables false
theorem loadOk_dec (x : S31) : loadOk x = decide (1 ≤ x.f0 ∧ x.f0 ≤ 20000 ∧ 1 ≤ x.f1 ∧ x.f1 ≤ x.f2 ∧ x.f2 ≤ 200) := by
  rw [Bool.eq_iff_iff, loadOk_iff, decide_eq_true_eq]; rfl
theorem rload_f (x : S31) : hortatorref7_Load.f x.f0 x.f1 x.f2 = some (loadOk x) := by
  rw [loadOk_dec]
  unfold hortatorref7_Load.f hortatorref7_in.f
  by_cases c1 : x.f0 ≥ 1
  · rw [if_pos c1, Option.bind_some]
    by_cases c2 : x.f0 ≤ 20000
    · rw [if_pos (by simpa using c2)]
      by_cases c3 : x.f1 ≥ 1
      · rw [if_pos c3]
        by_cases c4 : x.f1 ≤ x.f2
        · rw [if_pos c4]
          by_cases c5 : x.f2 ≤ 200
          · rw [decide_eq_true c5, decide_eq_true ⟨c1, c2, c3, c4, c5⟩]
          · rw [decide_eq_false c5, decide_eq_false (fun h => c5 h.2.2.2.2)]
        · rw [if_neg c4, decide_eq_false (fun h => c4 h.2.2.2.1)]
      · rw [if_neg c3, decide_eq_false (fun h => c3 h.2.2.1)]
    · rw [if_neg (by simpa using c2), decide_eq_false (fun h => c2 h.2.1)]
  · rw [if_neg c1, Option.bind_some, if_neg (by decide), decide_eq_false (fun h => c1 h.1)]
theorem rloads_l0 {l : List S31} (hl : l.length ≤ 1000) (d : Nat) : ∀ i k : Nat, i + d = l.length → d < k → hortatorref7_Loads.l0 k l (i : Int) = some ((l.drop i).all loadOk && decide (l.length ≤ 24)) := by
  induction d with
  | zero =>
    intro i k hi hk
    obtain ⟨k, rfl⟩ : ∃ m, k = m + 1 := ⟨k - 1, by omega⟩
    rw [hortatorref7_Loads.l0, if_neg (by omega), List.drop_eq_nil_of_le (by omega), List.all_nil, Bool.true_and]
    by_cases c : l.length ≤ 24
    · rw [decide_eq_true c, decide_eq_true (by omega)]
    · rw [decide_eq_false c, decide_eq_false (by omega)]
  | succ d ih =>
    intro i k hi hk
    obtain ⟨k, rfl⟩ : ∃ m, k = m + 1 := ⟨k - 1, by omega⟩
    have hlt : i < l.length := by omega
    rw [hortatorref7_Loads.l0, if_pos (by omega), if_pos (by omega), rd_nat, rload_f, Option.bind_some, getD_drop (l := l) (k := i) hlt, List.all_cons]
    cases hx : loadOk (l.getD i z31)
    · rw [if_neg (by decide), Bool.false_and, Bool.false_and]
    · rw [if_pos rfl, Bool.true_and, w64 (x := (i : Int) + 1) (by omega) (by omega), show ((i : Int) + 1) = ((i + 1 : Nat) : Int) by omega]
      exact ih (i + 1) k (by omega) (by omega)
theorem rloads_may {l : List S31} (h : May (lds l)) {k : Nat} (hk : 40 ≤ k) : hortatorref7_Loads.f k l = some true := by
  have hl := h.1
  rw [lds_length] at hl
  unfold hortatorref7_Loads.f
  have := rloads_l0 (l := l) (by omega) l.length 0 k (by omega) (by omega)
  rw [List.drop_zero] at this
  have e := (may_iff l).mpr h
  rw [Bool.and_comm] at e
  rw [e] at this
  exact this
theorem rloads_not {l : List S31} (h : ¬ May (lds l)) (hl : l.length ≤ 1000) {k : Nat} (hk : 1002 ≤ k) : hortatorref7_Loads.f k l = some false := by
  unfold hortatorref7_Loads.f
  have := rloads_l0 (l := l) hl l.length 0 k (by omega) (by omega)
  rw [List.drop_zero] at this
  have e : ¬ (decide (l.length ≤ 24) && l.all loadOk) = true := fun z => h ((may_iff l).mp z)
  rw [Bool.not_eq_true, Bool.and_comm] at e
  rw [e] at this
  exact this
theorem okD {l : List S31} (hO : Ok (lds l)) (i : Nat) : Ok (lds (l.drop i)) := fun x hx => by
  obtain ⟨y, hy, rfl⟩ := List.mem_map.mp hx
  exact hO _ (List.mem_map.mpr ⟨y, List.mem_of_mem_drop hy, rfl⟩)

end Go.Proofs.YtddepomgaeadpaaGreatDoor.LoadMath
