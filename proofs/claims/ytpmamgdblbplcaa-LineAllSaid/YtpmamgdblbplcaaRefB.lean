/- The reference's heap in memory: its first thing, and all its functions as an object. -/
import Derived.Test.YtpmamgdblbplcaaRef
namespace Go.Proofs.Ytpmamgdblbplcaa.Rf
open Go.RowKit Go.Proofs.Ytpmamgdblbplcaa.HeapModel
open Go.Proofs.YtpmamgdblbplcaaW.PrintWords (QRow q_of_own q_move q_lt q_cells q_drop q_take q_append cut_from cut_to q_slice q_typed)
open Go.Proofs.Ytpmamgdblbplcaa.Hp (blk_set blk_cell blk_frozen below_drewN)
open Go.Proofs.Ytpmamgdblbplcaa.On (add_more iEq ArrV)
set_option linter.unusedVariables false
set_option linter.unusedSimpArgs false
variable {w : World} {F : Nat → Prop} {p : Nat} {room : Int} {s : List (It Int)}
theorem chron_get (h : HeapModel.chron s) {i j : Nat} (hi : i < s.length) (hj : j < s.length) (hij : i < j) : s[i].m < s[j].m := List.pairwise_iff_getElem.1 h i j hi hj hij
theorem le_same (h : HeapModel.chron s) {i j : Nat} (hi : i < s.length) (hj : j < s.length) (h1 : Le s[i] s[j]) (h2 : Le s[j] s[i]) : i = j := by
  have e := h1.m_eq h2
  rcases Nat.lt_trichotomy i j with c | c | c
  · have := chron_get h hi hj c; omega
  · exact c
  · have := chron_get h hj hi c; omega
/-- the one that leads so far -/
def LeadF (s : List (It Int)) (j : Nat) (kk : Int) : Prop := (kk = -1 ∧ j = 0) ∨ ∃ k : Nat, kk = (k : Int) ∧ k < j ∧ ∃ hk : k < s.length, ∀ t (ht : t < s.length), t < j → Le s[k] s[t]
theorem LeadF.stay {j k : Nat} (hj : j < s.length) (hk : k < s.length) (hkj : k < j) (h : ∀ t (ht : t < s.length), t < j → Le s[k] s[t]) (hc : HeapModel.chron s) (hn : ¬ (s[j].a < s[k].a ∨ (s[j].a = s[k].a ∧ s[j].b < s[k].b))) : LeadF s (j + 1) (k : Int) := by
  refine Or.inr ⟨k, rfl, by omega, hk, fun t ht htj => ?_⟩
  by_cases e : t = j
  · subst e
    have := chron_get hc hk hj hkj
    rw [le_iff]
    omega
  · exact h t ht (by omega)
theorem LeadF.turn {j k : Nat} (hj : j < s.length) (hk : k < s.length) (hkj : k < j) (h : ∀ t (ht : t < s.length), t < j → Le s[k] s[t]) (hn : s[j].a < s[k].a ∨ (s[j].a = s[k].a ∧ s[j].b < s[k].b)) : LeadF s (j + 1) (j : Int) := by
  refine Or.inr ⟨j, rfl, by omega, hj, fun t ht htj => ?_⟩
  by_cases e : t = j
  · subst e; exact Le.refl _
  · have h1 : Le s[j] s[k] := by rw [le_iff]; omega
    exact h1.trans (h t ht (by omega))
theorem first_no (h : FObj w F p room []) : Calls Try.prog 90 #[.pointer (some ⟨p, 0, none⟩)] w fun e w' => e = .returned (.int .i64 (-1)) ∧ w' = w := by
  obtain ⟨A, c, h1, h2, h3, h4⟩ := h
  have c1 := (blk_cell h1 1).trans (rfl : _ = some (Value.slice A 0 c))
  clear h1 h2 h3 h4
  go_enter Try.func90, Try.ntmps90
  go_wp2
  go_loop [3, 4] (fun k i => k = .int .i64 (-1) ∧ i = .int .i64 0) (fun _ _ => 0)
  case atStart => exact ⟨rfl, rfl⟩
  case round =>
    obtain ⟨rfl, rfl⟩ := hrel
    go_wp2
    go_ret
    exact ⟨rfl, rfl⟩
set_option maxHeartbeats 4000000 in
set_option maxRecDepth 100000 in
theorem first_yes (h : FObj w F p room s) (hc : HeapModel.chron s) (i : Nat) (hi : i < s.length) (hle : ∀ j (hj : j < s.length), Le s[i] s[j]) (hl : s.length ≤ 1000) :
    Calls Try.prog 90 #[.pointer (some ⟨p, 0, none⟩)] w fun e w' => e = .returned (.int .i64 (i : Int)) ∧ Below w.heap.size w w' := by
  obtain ⟨A, c, h1, h2, h3, h4⟩ := h
  have hp := (Array.getElem?_eq_some_iff.1 h1).1
  have C1 := Lib.hid (show ∀ w', Below w.heap.size w w' → w'.cell? ⟨p, 1, none⟩ = some (Value.slice A s.length c) from fun w' hb => (blk_cell ((hb.block p hp).trans h1) 1).trans (rfl : _ = some (Value.slice A s.length c)))
  have H2 := Lib.hid h2
  have HC := Lib.hid hc
  have HLE := Lib.hid hle
  clear h1 h2 h3 h4 hc hle
  go_enter Try.func90, Try.ntmps90
  go_wp2
  go_loopw [3, 4] (fun k i wr => ∃ (j : Nat) (kk : Int), k = .int .i64 kk ∧ i = .int .i64 (j : Int) ∧ Hid (Below w.heap.size w wr) ∧ Hid (LeadF s j kk) ∧ j ≤ s.length) (fun _ i _ => 1001 - (intOf i).toNat)
  case atStart => exact ⟨0, -1, rfl, rfl, Lib.hid (Below.refl _ _), Lib.hid (Or.inl ⟨rfl, rfl⟩), by omega⟩
  case round =>
    obtain ⟨j, kk, rfl, rfl, HW, HL, hj⟩ := hrel
    have c1 := C1.out wr HW.out
    have HM := Lib.hid (show ∀ k, (Value.slice A s.length c).ownBlock = some k → wr.heap[k]? = w.heap[k]? from fun k hk => HW.out.block k (q_lt H2.out k hk))
    by_cases hlt : (j : Int) < (s.length : Int)
    · have hjs : j < s.length := by omega
      obtain ⟨ad, rfl, hrow⟩ := row_cells H2.out (by omega)
      obtain ⟨-, ja, jb⟩ := hrow wr HM.out j hjs
      obtain ⟨aj, haj⟩ : ∃ v, s[j].a = v := ⟨_, rfl⟩
      obtain ⟨bj, hbj⟩ : ∃ v, s[j].b = v := ⟨_, rfl⟩
      rw [haj] at ja
      rw [hbj] at jb
      have HAJ := Lib.hid haj
      have HBJ := Lib.hid hbj
      clear haj hbj
      rcases HL.out with ⟨rfl, rfl⟩ | ⟨k, rfl, hkj, hks, hmin⟩
      · have HN : Hid (LeadF s (0 + 1) ((0 : Nat) : Int)) := Lib.hid (Or.inr ⟨0, rfl, by omega, hjs, fun t ht ht1 => (by
          have e : t = 0 := by omega
          subst e
          exact Le.refl _)⟩)
        clear hrow
        go_wp2
        go_quiet (fail)
        go_wp2
        exact ⟨⟨0 + 1, _, rfl, rfl, Lib.hid (HW.out.trans ((below_drewN _ _).mono HW.out.size)), HN, by omega⟩, by simp [intOf]⟩
      · obtain ⟨-, ka, kb⟩ := hrow wr HM.out k hks
        obtain ⟨ak, hak⟩ : ∃ v, s[k].a = v := ⟨_, rfl⟩
        obtain ⟨bk, hbk⟩ : ∃ v, s[k].b = v := ⟨_, rfl⟩
        rw [hak] at ka
        rw [hbk] at kb
        have HAK := Lib.hid hak
        have HBK := Lib.hid hbk
        have STAY := Lib.hid (fun hn => LeadF.stay hjs hks hkj hmin HC.out hn)
        have TURN := Lib.hid (fun hn => LeadF.turn hjs hks hkj hmin hn)
        clear hak hbk hmin hrow HL
        have k0 : (0 : Int) ≤ (k : Int) := by omega
        have k0b : decide ((k : Int) < 0) = false := by simp
        have kl : (k : Int) < (s.length : Int) := by omega
        have hcases : (decide (aj < ak) = true) ∨ (decide (aj < ak) = false ∧ (aj == ak) = false) ∨ (decide (aj < ak) = false ∧ (aj == ak) = true ∧ decide (bj < bk) = true) ∨ (decide (aj < ak) = false ∧ (aj == ak) = true ∧ decide (bj < bk) = false) := by
          simp only [decide_eq_true_eq, decide_eq_false_iff_not, beq_iff_eq, beq_eq_false_iff_ne, ne_eq]
          omega
        rcases hcases with g1 | ⟨g1, g2⟩ | ⟨g1, g2, g3⟩ | ⟨g1, g2, g3⟩
        · have HN := Lib.hid (TURN.out (by rw [HAJ.out, HAK.out]; simp at g1; omega))
          go_wp2
          go_quiet (fail)
          go_wp2
          exact ⟨⟨j + 1, _, rfl, iEq (by omega), Lib.hid (HW.out.trans ((below_drewN _ _).mono HW.out.size)), HN, by omega⟩, by simp [intOf]; omega⟩
        · have HN := Lib.hid (STAY.out (by rw [HAJ.out, HAK.out]; simp at g1 g2; omega))
          go_wp2
          go_quiet (fail)
          go_wp2
          exact ⟨⟨j + 1, _, rfl, iEq (by omega), Lib.hid (HW.out.trans ((below_drewN _ _).mono HW.out.size)), HN, by omega⟩, by simp [intOf]; omega⟩
        · have HN := Lib.hid (TURN.out (by rw [HAJ.out, HAK.out, HBJ.out, HBK.out]; simp at g1 g2 g3; omega))
          go_wp2
          go_quiet (fail)
          go_wp2
          exact ⟨⟨j + 1, _, rfl, iEq (by omega), Lib.hid (HW.out.trans ((below_drewN _ _).mono HW.out.size)), HN, by omega⟩, by simp [intOf]; omega⟩
        · have HN := Lib.hid (STAY.out (by rw [HAJ.out, HAK.out, HBJ.out, HBK.out]; simp at g1 g2 g3; omega))
          go_wp2
          go_quiet (fail)
          go_wp2
          exact ⟨⟨j + 1, _, rfl, iEq (by omega), Lib.hid (HW.out.trans ((below_drewN _ _).mono HW.out.size)), HN, by omega⟩, by simp [intOf]; omega⟩
    · obtain rfl : j = s.length := by omega
      have hk : kk = (i : Int) := by
        rcases HL.out with ⟨_, e⟩ | ⟨k, rfl, hkj, hks, hmin⟩
        · omega
        · have := le_same HC.out hks hi (hmin i hi hi) (HLE.out k hks)
          omega
      subst hk
      go_wp2
      go_ret
      exact ⟨rfl, HW.out⟩
end Go.Proofs.Ytpmamgdblbplcaa.Rf
