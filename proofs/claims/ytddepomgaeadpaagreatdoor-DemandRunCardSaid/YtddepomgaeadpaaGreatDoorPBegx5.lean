-- Written by a program of this session (wip/pp.py) over the kit's print, with hand-proved contracts beside it.
import Derived.Test.YtddepomgaeadpaaGreatDoorPBegx0
import Derived.Test.YtddepomgaeadpaaGreatDoorPBegx3
namespace Go.Proofs.YtddepomgaeadpaaGreatDoor.PBeg
open Go.Shelf Go.Lib Go.RowKit Go.Proofs.YtddepomgaeadpaaGreatDoorW.PrintWords Go.Proofs.YtddepomgaeadpaaGreatDoorW.PrintLast Go.Proofs.YtddepomgaeadpaaGreatDoorW.PrintMore
attribute [local go_sem] max2_int min2_int max_two min_two max_three min_three max_four min_four   -- for this text's walks alone
set_option linter.unusedVariables false
set_option linter.unusedSimpArgs false

/-! ### rule_Task: function 65 -/
mutual
def rule_Task.j0 : Nat → Bool → Int → Int → Int → Int → List Int → Int → Int → Int → List (S59) → Option (Bool)
 | 0, _, _, _, _, _, _, _, _, _, _ => none
 | k + 1, x35, x122000, x122001, x122002, x122003, x122004, x123000, x123001, x123002, x123003 => if x35 = true then (some false) else (rule_Task.l0 k 0 x123003 (x123003.length : Int) 0 x122000 x122001 x122002 x122003 x122004 x123000 x123001 x123002 x123003)
def rule_Task.l0 : Nat → Int → List (S59) → Int → Int → Int → Int → Int → Int → List Int → Int → Int → Int → List (S59) → Option (Bool)
 | 0, _, _, _, _, _, _, _, _, _, _, _, _, _ => none
 | k + 1, x5, x37, x38, x39, x122000, x122001, x122002, x122003, x122004, x123000, x123001, x123002, x123003 => if x39 < x38 then (if 0 ≤ x39 then (if x39 < (x37.length : Int) then (if ((rd_T59 x37 x39).f0) < 0 then (some false) else (if ((rd_T59 x37 x39).f0) ≥ (x122004.length : Int) then (some false) else ((rule_within.f ((rd_T59 x37 x39).f2) 1 200).bind fun t125 => (if t125 = true then (if ((rd_T59 x37 x39).f1) ≤ x5 then (some false) else (if ((rd_T59 x37 x39).f1) ≥ x123000 then (some false) else (rule_Task.l0 k ((rd_T59 x37 x39).f1) x37 x38 (wrap64 (x39 + 1)) x122000 x122001 x122002 x122003 x122004 x123000 x123001 x123002 x123003))) else (some false))))) else (none)) else (none)) else (some true)
end
def rule_Task.f (k : Nat) (a0_0 : Int) (a0_1 : Int) (a0_2 : Int) (a0_3 : Int) (l0_4 : List Int) (a1_0 : Int) (a1_1 : Int) (a1_2 : Int) (l1_3 : List (S59)) : Option (Bool) := if a1_0 < 1 then (rule_Task.j0 k true a0_0 a0_1 a0_2 a0_3 l0_4 a1_0 a1_1 a1_2 l1_3) else (if a1_0 > a1_1 then (rule_Task.j0 k true a0_0 a0_1 a0_2 a0_3 l0_4 a1_0 a1_1 a1_2 l1_3) else (if a1_1 > a1_2 then (rule_Task.j0 k true a0_0 a0_1 a0_2 a0_3 l0_4 a1_0 a1_1 a1_2 l1_3) else (if a1_2 > 200 then (rule_Task.j0 k true a0_0 a0_1 a0_2 a0_3 l0_4 a1_0 a1_1 a1_2 l1_3) else (rule_Task.j0 k (decide ((l1_3.length : Int) > 2)) a0_0 a0_1 a0_2 a0_3 l0_4 a1_0 a1_1 a1_2 l1_3))))
set_option maxHeartbeats 8000000 in
set_option maxRecDepth 100000 in
theorem rule_Task.calls (k : Nat) (a0_0 : Int) (a0_1 : Int) (a0_2 : Int) (a0_3 : Int) (A0_4 : Option Addr) (c0_4 : Nat) (l0_4 : List Int) (a1_0 : Int) (a1_1 : Int) (a1_2 : Int) (A1_3 : Option Addr) (c1_3 : Nat) (l1_3 : List (S59)) (r : Bool) (w : World) (hr0_4 : Kd.C (Kd.int .i64) w A0_4 l0_4.length l0_4) (hc0_4 : l0_4.length ≤ c0_4) (hr1_3 : Kd.C k59 w A1_3 l1_3.length l1_3) (hc1_3 : l1_3.length ≤ c1_3) (h : rule_Task.f k a0_0 a0_1 a0_2 a0_3 l0_4 a1_0 a1_1 a1_2 l1_3 = some r) :
  Calls Tryz.prog 65 #[.agg #[.int .i64 a0_0, .int .i64 a0_1, .int .i64 a0_2, .int .i64 a0_3, .slice A0_4 l0_4.length c0_4], .agg #[.int .i64 a1_0, .int .i64 a1_1, .int .i64 a1_2, .slice A1_3 l1_3.length c1_3]] w fun e w' => e = .returned (.bool r) ∧ Below w.heap.size w w' := by
 have hu57 := Tryz.underlying57
 have hu62 := Tryz.underlying62
 have hu59 := Tryz.underlying59
 have HR0_4 := Aside0.mk hr0_4
 have HC0_4 := Aside0.mk hc0_4
 clear hr0_4 hc0_4
 have HR1_3 := Aside0.mk hr1_3
 have HC1_3 := Aside0.mk hc1_3
 clear hr1_3 hc1_3
 have HB := Aside0.mk (Below.refl w.heap.size w)
 have H : (if a1_0 < 1 then (rule_Task.j0 k true a0_0 a0_1 a0_2 a0_3 l0_4 a1_0 a1_1 a1_2 l1_3) else (if a1_0 > a1_1 then (rule_Task.j0 k true a0_0 a0_1 a0_2 a0_3 l0_4 a1_0 a1_1 a1_2 l1_3) else (if a1_1 > a1_2 then (rule_Task.j0 k true a0_0 a0_1 a0_2 a0_3 l0_4 a1_0 a1_1 a1_2 l1_3) else (if a1_2 > 200 then (rule_Task.j0 k true a0_0 a0_1 a0_2 a0_3 l0_4 a1_0 a1_1 a1_2 l1_3) else (rule_Task.j0 k (decide ((l1_3.length : Int) > 2)) a0_0 a0_1 a0_2 a0_3 l0_4 a1_0 a1_1 a1_2 l1_3))))) = some r := h
 clear h
 have HC3 := Aside0.mk H
 clear H
 go_enter Tryz.func65, Tryz.ntmps65
 go_upto_region 1 with (first | ((with_reducible refine gate_dst (N := 2) rfl ?_); (try (refine gate_guard (by rfl) ?_; dsimp only)); refine box_event ?hg (N := 2) ?hd (cs := #[.int .i64 a0_0, .int .i64 a0_1, .int .i64 a0_2, .int .i64 a0_3, .slice A0_4 l0_4.length c0_4]) (t := 57) ?hr ?_; (case hd => rfl); (case hg => rfl); (case hr => (go_simp; done)); intro gb121 hg w4 hbox hb; have BK121 := Aside0.mk (hbox); have GW121 := Aside0.mk ((by rw [hg]; exact below_size HB.out : w.heap.size ≤ gb121)); have GE121 := Aside0.mk ((by rw [hg]; exact below_size HB.out : w.heap.size ≤ gb121)); replace HB := Aside0.mk (below_step HB.out hb); clear hb hbox hg) | ((with_reducible refine gate_dst (N := 3) rfl ?_); (try (refine gate_guard (by rfl) ?_; dsimp only)); refine box_event ?hg (N := 3) ?hd (cs := #[.int .i64 a1_0, .int .i64 a1_1, .int .i64 a1_2, .slice A1_3 l1_3.length c1_3]) (t := 62) ?hr ?_; (case hd => rfl); (case hg => rfl); (case hr => (go_simp; done)); intro gb122 hg w5 hbox hb; have BK122 := Aside0.mk (hbox); have GW122 := Aside0.mk ((by rw [hg]; exact below_size HB.out : w.heap.size ≤ gb122)); have GE122 := Aside0.mk ((by rw [hg]; exact below_size HB.out : w.heap.size ≤ gb122)); have NB121_122 := Aside0.mk ((by rw [hg]; exact Nat.ne_of_lt (blk_lt BK121.out) : gb121 ≠ gb122)); have NB122_121 := Aside0.mk ((by rw [hg]; exact Nat.ne_of_gt (blk_lt BK121.out) : gb122 ≠ gb121)); replace BK121 := Aside0.mk (blk_below BK121.out hb); replace HB := Aside0.mk (below_step HB.out hb); clear hb hbox hg))
 (try simp only [Act.put, List.setIfInBounds_toArray, List.set_cons_zero, List.set_cons_succ])
 go_cut [35] (fun v35 wc => ∃ (kq : Nat) (x35_2 : Bool), v35 = .bool x35_2 ∧ Aside0 (rule_Task.j0 kq x35_2 a0_0 a0_1 a0_2 a0_3 l0_4 a1_0 a1_1 a1_2 l1_3 = some r) ∧ Aside0 (kq ≤ k) ∧ Aside0 (wc.heap[gb121]? = some (.cells #[.int .i64 a0_0, .int .i64 a0_1, .int .i64 a0_2, .int .i64 a0_3, (.slice A0_4 l0_4.length c0_4)] 57 (0, 0))) ∧ Aside0 (wc.heap[gb122]? = some (.cells #[.int .i64 a1_0, .int .i64 a1_1, .int .i64 a1_2, (.slice A1_3 l1_3.length c1_3)] 62 (0, 0))) ∧ Aside0 (Below w.heap.size w wc))
 case first =>
  have H := HC3.out
  clear HC3
  by_cases c6 : a1_0 < 1
  ·rw [if_pos c6] at H
   have c6b0 : decide (a1_0 < 1) = true := decide_eq_true c6
   clear c6
   ((skip))
   have H' := Aside0.mk H
   clear H
   have hnb7 := NB122_121.out
   have hnc7 := NB121_122.out
   have hcz8_0 : w5.cell? ⟨gb122, 0, none⟩ = some (.int .i64 a1_0) := (blk_cell BK122.out 0).trans rfl
   have hcz8_1 : w5.cell? ⟨gb122, 1, none⟩ = some (.int .i64 a1_1) := (blk_cell BK122.out 1).trans rfl
   have hcz8_2 : w5.cell? ⟨gb122, 2, none⟩ = some (.int .i64 a1_2) := (blk_cell BK122.out 2).trans rfl
   have hcz8_3 : w5.cell? ⟨gb122, 3, none⟩ = some (.slice A1_3 l1_3.length c1_3) := (blk_cell BK122.out 3).trans rfl
   have hfz8_0 := blk_frozen BK122.out 0
   have hfz8_1 := blk_frozen BK122.out 1
   have hfz8_2 := blk_frozen BK122.out 2
   have hfz8_3 := blk_frozen BK122.out 3
   go_wp2
   go_meet
   case rel => exact ⟨_, (true), (by (rfl)), H', ⟨by (omega)⟩, ⟨BK121.out⟩, ⟨BK122.out⟩, ⟨HB.out⟩⟩
  ·rw [if_neg c6] at H
   have c6b0 : decide (a1_0 < 1) = false := decide_eq_false c6
   clear c6
   ((skip))
   by_cases c9 : a1_0 > a1_1
   ·rw [if_pos c9] at H
    have c9b0 : decide (a1_1 < a1_0) = true := decide_eq_true c9
    clear c9
    have H' := Aside0.mk H
    clear H
    have hnb10 := NB122_121.out
    have hnc10 := NB121_122.out
    have hcz11_0 : w5.cell? ⟨gb122, 0, none⟩ = some (.int .i64 a1_0) := (blk_cell BK122.out 0).trans rfl
    have hcz11_1 : w5.cell? ⟨gb122, 1, none⟩ = some (.int .i64 a1_1) := (blk_cell BK122.out 1).trans rfl
    have hcz11_2 : w5.cell? ⟨gb122, 2, none⟩ = some (.int .i64 a1_2) := (blk_cell BK122.out 2).trans rfl
    have hcz11_3 : w5.cell? ⟨gb122, 3, none⟩ = some (.slice A1_3 l1_3.length c1_3) := (blk_cell BK122.out 3).trans rfl
    have hfz11_0 := blk_frozen BK122.out 0
    have hfz11_1 := blk_frozen BK122.out 1
    have hfz11_2 := blk_frozen BK122.out 2
    have hfz11_3 := blk_frozen BK122.out 3
    go_wp2
    go_meet
    case rel => exact ⟨_, (true), (by (rfl)), H', ⟨by (omega)⟩, ⟨BK121.out⟩, ⟨BK122.out⟩, ⟨HB.out⟩⟩
   ·rw [if_neg c9] at H
    have c9b0 : decide (a1_1 < a1_0) = false := decide_eq_false c9
    clear c9
    by_cases c12 : a1_1 > a1_2
    ·rw [if_pos c12] at H
     have c12b0 : decide (a1_2 < a1_1) = true := decide_eq_true c12
     clear c12
     have H' := Aside0.mk H
     clear H
     have hnb13 := NB122_121.out
     have hnc13 := NB121_122.out
     have hcz14_0 : w5.cell? ⟨gb122, 0, none⟩ = some (.int .i64 a1_0) := (blk_cell BK122.out 0).trans rfl
     have hcz14_1 : w5.cell? ⟨gb122, 1, none⟩ = some (.int .i64 a1_1) := (blk_cell BK122.out 1).trans rfl
     have hcz14_2 : w5.cell? ⟨gb122, 2, none⟩ = some (.int .i64 a1_2) := (blk_cell BK122.out 2).trans rfl
     have hcz14_3 : w5.cell? ⟨gb122, 3, none⟩ = some (.slice A1_3 l1_3.length c1_3) := (blk_cell BK122.out 3).trans rfl
     have hfz14_0 := blk_frozen BK122.out 0
     have hfz14_1 := blk_frozen BK122.out 1
     have hfz14_2 := blk_frozen BK122.out 2
     have hfz14_3 := blk_frozen BK122.out 3
     go_wp2
     go_meet
     case rel => exact ⟨_, (true), (by (rfl)), H', ⟨by (omega)⟩, ⟨BK121.out⟩, ⟨BK122.out⟩, ⟨HB.out⟩⟩
    ·rw [if_neg c12] at H
     have c12b0 : decide (a1_2 < a1_1) = false := decide_eq_false c12
     clear c12
     by_cases c15 : a1_2 > 200
     ·rw [if_pos c15] at H
      have c15b0 : decide (200 < a1_2) = true := decide_eq_true c15
      clear c15
      have H' := Aside0.mk H
      clear H
      have hnb16 := NB122_121.out
      have hnc16 := NB121_122.out
      have hcz17_0 : w5.cell? ⟨gb122, 0, none⟩ = some (.int .i64 a1_0) := (blk_cell BK122.out 0).trans rfl
      have hcz17_1 : w5.cell? ⟨gb122, 1, none⟩ = some (.int .i64 a1_1) := (blk_cell BK122.out 1).trans rfl
      have hcz17_2 : w5.cell? ⟨gb122, 2, none⟩ = some (.int .i64 a1_2) := (blk_cell BK122.out 2).trans rfl
      have hcz17_3 : w5.cell? ⟨gb122, 3, none⟩ = some (.slice A1_3 l1_3.length c1_3) := (blk_cell BK122.out 3).trans rfl
      have hfz17_0 := blk_frozen BK122.out 0
      have hfz17_1 := blk_frozen BK122.out 1
      have hfz17_2 := blk_frozen BK122.out 2
      have hfz17_3 := blk_frozen BK122.out 3
      go_wp2
      go_meet
      case rel => exact ⟨_, (true), (by (rfl)), H', ⟨by (omega)⟩, ⟨BK121.out⟩, ⟨BK122.out⟩, ⟨HB.out⟩⟩
     ·rw [if_neg c15] at H
      have c15b0 : decide (200 < a1_2) = false := decide_eq_false c15
      clear c15
      have H' := Aside0.mk H
      clear H
      have hnb18 := NB122_121.out
      have hnc18 := NB121_122.out
      have hcz19_0 : w5.cell? ⟨gb122, 0, none⟩ = some (.int .i64 a1_0) := (blk_cell BK122.out 0).trans rfl
      have hcz19_1 : w5.cell? ⟨gb122, 1, none⟩ = some (.int .i64 a1_1) := (blk_cell BK122.out 1).trans rfl
      have hcz19_2 : w5.cell? ⟨gb122, 2, none⟩ = some (.int .i64 a1_2) := (blk_cell BK122.out 2).trans rfl
      have hcz19_3 : w5.cell? ⟨gb122, 3, none⟩ = some (.slice A1_3 l1_3.length c1_3) := (blk_cell BK122.out 3).trans rfl
      have hfz19_0 := blk_frozen BK122.out 0
      have hfz19_1 := blk_frozen BK122.out 1
      have hfz19_2 := blk_frozen BK122.out 2
      have hfz19_3 := blk_frozen BK122.out 3
      go_wp2
      go_meet
      case rel => exact ⟨_, (decide ((l1_3.length : Int) > 2)), (by (rfl)), H', ⟨by (omega)⟩, ⟨BK121.out⟩, ⟨BK122.out⟩, ⟨HB.out⟩⟩
 case rest =>
  clear HC3
  obtain ⟨kq, x35_2, rfl, HA, HJ2, BK121, BK122, HB⟩ := hcut
  cases kq with
  | zero => exact absurd HA.out (by simp [rule_Task.j0])
  | succ kj2 =>
   have H := HA.out
   clear HA
   simp only [rule_Task.j0] at H
   by_cases c20 : x35_2 = true
   ·subst c20
    have H1 : (some false) = some r := by rw [if_pos rfl] at H; exact H
    clear H
    have H := H1
    clear H1
    obtain rfl := Option.some.inj H
    go_wp2
    go_ret
    exact ⟨by (rfl), by repeat ((with_reducible (exact HB.out)))⟩
   ·replace c20 := Bool.eq_false_iff.mpr c20
    subst c20
    have H1 : (rule_Task.l0 kj2 0 l1_3 (l1_3.length : Int) 0 a0_0 a0_1 a0_2 a0_3 l0_4 a1_0 a1_1 a1_2 l1_3) = some r := by rw [if_neg (show ¬ (false = true) by decide)] at H; exact H
    clear H
    have H := H1
    clear H1
    have H' := Aside0.mk H
    clear H
    have hnb21 := NB122_121.out
    have hnc21 := NB121_122.out
    have hcz22_0 : wc.cell? ⟨gb122, 0, none⟩ = some (.int .i64 a1_0) := (blk_cell BK122.out 0).trans rfl
    have hcz22_1 : wc.cell? ⟨gb122, 1, none⟩ = some (.int .i64 a1_1) := (blk_cell BK122.out 1).trans rfl
    have hcz22_2 : wc.cell? ⟨gb122, 2, none⟩ = some (.int .i64 a1_2) := (blk_cell BK122.out 2).trans rfl
    have hcz22_3 : wc.cell? ⟨gb122, 3, none⟩ = some (.slice A1_3 l1_3.length c1_3) := (blk_cell BK122.out 3).trans rfl
    have hfz22_0 := blk_frozen BK122.out 0
    have hfz22_1 := blk_frozen BK122.out 1
    have hfz22_2 := blk_frozen BK122.out 2
    have hfz22_3 := blk_frozen BK122.out 3
    go_wp2
    go_loopg [5, 39] kj2 (fun kq v5 v39 w' => ∃ (x5_2 : Int) (x39_2 : Int), v5 = .int .i64 x5_2 ∧ v39 = .int .i64 x39_2 ∧ Aside0 (rule_Task.l0 kq x5_2 l1_3 (l1_3.length : Int) x39_2 a0_0 a0_1 a0_2 a0_3 l0_4 a1_0 a1_1 a1_2 l1_3 = some r) ∧ Aside0 (kq ≤ kj2) ∧ Aside0 (w'.heap[gb121]? = some (.cells #[.int .i64 a0_0, .int .i64 a0_1, .int .i64 a0_2, .int .i64 a0_3, (.slice A0_4 l0_4.length c0_4)] 57 (0, 0))) ∧ Aside0 (w'.heap[gb122]? = some (.cells #[.int .i64 a1_0, .int .i64 a1_1, .int .i64 a1_2, (.slice A1_3 l1_3.length c1_3)] 62 (0, 0))) ∧ Aside0 (Below w.heap.size w w'))
    case atStart => exact ⟨(0), (0), (by (rfl)), (by (rfl)), H', ⟨Nat.le_refl _⟩, ⟨BK121.out⟩, ⟨BK122.out⟩, ⟨HB.out⟩⟩
    case round =>
     clear H'
     try clear hcz22_0
     try clear hcz22_1
     try clear hcz22_2
     try clear hcz22_3
     try clear hfz22_0
     try clear hfz22_1
     try clear hfz22_2
     try clear hfz22_3
     obtain ⟨x5_2, x39_2, rfl, rfl, HA, HK2, BK121, BK122, HB⟩ := hrel
     cases gk with
     | zero => exact absurd HA.out (by simp [rule_Task.l0])
     | succ k2 =>
      have H := HA.out
      clear HA
      simp only [rule_Task.l0] at H
      by_cases c23 : x39_2 < (l1_3.length : Int)
      ·rw [if_pos c23] at H
       have c23b0 : decide (x39_2 < (l1_3.length : Int)) = true := decide_eq_true c23
       clear c23
       by_cases c24 : 0 ≤ x39_2
       ·rw [if_pos c24] at H
        have c24b0 : decide (0 ≤ x39_2) = true := decide_eq_true c24
        clear c24
        by_cases c25 : x39_2 < (l1_3.length : Int)
        ·rw [if_pos c25] at H
         have c25b0 : decide (x39_2 < (l1_3.length : Int)) = true := decide_eq_true c25
         clear c25
         by_cases c26 : ((rd_T59 l1_3 x39_2).f0) < 0
         ·rw [if_pos c26] at H
          have c26b0 : decide (((rd_T59 l1_3 x39_2).f0) < 0) = true := decide_eq_true c26
          clear c26
          obtain rfl := Option.some.inj H
          have p123 : 0 ≤ (x39_2 : Int) := of_decide_eq_true (by (with_reducible assumption))
          have q123 : x39_2 < (l1_3.length : Int) := of_decide_eq_true (by (with_reducible assumption))
          obtain ⟨ad123, e123, hx123_0, hx123_1, hx123_2⟩ := at_T59 HR1_3.out x39_2 p123 q123
          cases e123
          replace hx123_0 := (HB.out.cell (World.block_lt_of_cell? w _ hx123_0)).trans hx123_0
          replace hx123_1 := (HB.out.cell (World.block_lt_of_cell? w _ hx123_1)).trans hx123_1
          replace hx123_2 := (HB.out.cell (World.block_lt_of_cell? w _ hx123_2)).trans hx123_2
          replace p123 := eq_true p123
          replace q123 := eq_true q123
          go_wp2_with (((with_reducible refine gate_dst (N := 7) rfl ?_); (try (refine gate_guard (by rfl) ?_; dsimp only)); refine box_event ?hg (N := 7) ?hd (cs := #[.int .i64 0, .int .i64 0, .int .i64 0]) (t := 59) ?hr ?_; (case hd => rfl); (case hg => rfl); (case hr => (go_simp; done)); intro gb124 hg w27 hbox hb; have BK124 := Aside0.mk (hbox); have GW124 := Aside0.mk ((by rw [hg]; exact below_size HB.out : w.heap.size ≤ gb124)); have GE124 := Aside0.mk ((by rw [hg]; exact below_size HB.out : w.heap.size ≤ gb124)); have NB121_124 := Aside0.mk ((by rw [hg]; exact Nat.ne_of_lt (blk_lt BK121.out) : gb121 ≠ gb124)); have NB124_121 := Aside0.mk ((by rw [hg]; exact Nat.ne_of_gt (blk_lt BK121.out) : gb124 ≠ gb121)); have NB122_124 := Aside0.mk ((by rw [hg]; exact Nat.ne_of_lt (blk_lt BK122.out) : gb122 ≠ gb124)); have NB124_122 := Aside0.mk ((by rw [hg]; exact Nat.ne_of_gt (blk_lt BK122.out) : gb124 ≠ gb122)); replace BK121 := Aside0.mk (blk_below BK121.out hb); replace BK122 := Aside0.mk (blk_below BK122.out hb); replace HB := Aside0.mk (below_step HB.out hb); clear hb hbox hg; have hnb28 := NB124_121.out; have hnc28 := NB121_124.out; have hnb29 := NB124_122.out; have hnc29 := NB122_124.out; have hcz30_0 : w27.cell? ⟨gb124, 0, none⟩ = some (.int .i64 0) := (blk_cell BK124.out 0).trans rfl; have hcz30_1 : w27.cell? ⟨gb124, 1, none⟩ = some (.int .i64 0) := (blk_cell BK124.out 1).trans rfl; have hcz30_2 : w27.cell? ⟨gb124, 2, none⟩ = some (.int .i64 0) := (blk_cell BK124.out 2).trans rfl; have hfz30_0 := blk_frozen BK124.out 0; have hfz30_1 := blk_frozen BK124.out 1; have hfz30_2 := blk_frozen BK124.out 2))
          go_ret
          exact ⟨by (rfl), by repeat ((with_reducible first | exact HB.out | refine below_set ?_ GE124.out))⟩
         ·rw [if_neg c26] at H
          have c26b0 : decide (((rd_T59 l1_3 x39_2).f0) < 0) = false := decide_eq_false c26
          clear c26
          by_cases c31 : ((rd_T59 l1_3 x39_2).f0) ≥ (l0_4.length : Int)
          ·rw [if_pos c31] at H
           have c31b0 : decide ((l0_4.length : Int) ≤ ((rd_T59 l1_3 x39_2).f0)) = true := decide_eq_true c31
           clear c31
           obtain rfl := Option.some.inj H
           have p123 : 0 ≤ (x39_2 : Int) := of_decide_eq_true (by (with_reducible assumption))
           have q123 : x39_2 < (l1_3.length : Int) := of_decide_eq_true (by (with_reducible assumption))
           obtain ⟨ad123, e123, hx123_0, hx123_1, hx123_2⟩ := at_T59 HR1_3.out x39_2 p123 q123
           cases e123
           replace hx123_0 := (HB.out.cell (World.block_lt_of_cell? w _ hx123_0)).trans hx123_0
           replace hx123_1 := (HB.out.cell (World.block_lt_of_cell? w _ hx123_1)).trans hx123_1
           replace hx123_2 := (HB.out.cell (World.block_lt_of_cell? w _ hx123_2)).trans hx123_2
           replace p123 := eq_true p123
           replace q123 := eq_true q123
           go_wp2_with (((with_reducible refine gate_dst (N := 7) rfl ?_); (try (refine gate_guard (by rfl) ?_; dsimp only)); refine box_event ?hg (N := 7) ?hd (cs := #[.int .i64 0, .int .i64 0, .int .i64 0]) (t := 59) ?hr ?_; (case hd => rfl); (case hg => rfl); (case hr => (go_simp; done)); intro gb124 hg w32 hbox hb; have BK124 := Aside0.mk (hbox); have GW124 := Aside0.mk ((by rw [hg]; exact below_size HB.out : w.heap.size ≤ gb124)); have GE124 := Aside0.mk ((by rw [hg]; exact below_size HB.out : w.heap.size ≤ gb124)); have NB121_124 := Aside0.mk ((by rw [hg]; exact Nat.ne_of_lt (blk_lt BK121.out) : gb121 ≠ gb124)); have NB124_121 := Aside0.mk ((by rw [hg]; exact Nat.ne_of_gt (blk_lt BK121.out) : gb124 ≠ gb121)); have NB122_124 := Aside0.mk ((by rw [hg]; exact Nat.ne_of_lt (blk_lt BK122.out) : gb122 ≠ gb124)); have NB124_122 := Aside0.mk ((by rw [hg]; exact Nat.ne_of_gt (blk_lt BK122.out) : gb124 ≠ gb122)); replace BK121 := Aside0.mk (blk_below BK121.out hb); replace BK122 := Aside0.mk (blk_below BK122.out hb); replace HB := Aside0.mk (below_step HB.out hb); clear hb hbox hg; have hnb33 := NB124_121.out; have hnc33 := NB121_124.out; have hnb34 := NB124_122.out; have hnc34 := NB122_124.out; have hcz35_0 : w32.cell? ⟨gb124, 0, none⟩ = some (.int .i64 0) := (blk_cell BK124.out 0).trans rfl; have hcz35_1 : w32.cell? ⟨gb124, 1, none⟩ = some (.int .i64 0) := (blk_cell BK124.out 1).trans rfl; have hcz35_2 : w32.cell? ⟨gb124, 2, none⟩ = some (.int .i64 0) := (blk_cell BK124.out 2).trans rfl; have hfz35_0 := blk_frozen BK124.out 0; have hfz35_1 := blk_frozen BK124.out 1; have hfz35_2 := blk_frozen BK124.out 2; have hnb36 := NB121_122.out; have hnc36 := NB122_121.out; have hcz37_0 : w32.cell? ⟨gb121, 0, none⟩ = some (.int .i64 a0_0) := (blk_cell BK121.out 0).trans rfl; have hcz37_1 : w32.cell? ⟨gb121, 1, none⟩ = some (.int .i64 a0_1) := (blk_cell BK121.out 1).trans rfl; have hcz37_2 : w32.cell? ⟨gb121, 2, none⟩ = some (.int .i64 a0_2) := (blk_cell BK121.out 2).trans rfl; have hcz37_3 : w32.cell? ⟨gb121, 3, none⟩ = some (.int .i64 a0_3) := (blk_cell BK121.out 3).trans rfl; have hcz37_4 : w32.cell? ⟨gb121, 4, none⟩ = some (.slice A0_4 l0_4.length c0_4) := (blk_cell BK121.out 4).trans rfl; have hfz37_0 := blk_frozen BK121.out 0; have hfz37_1 := blk_frozen BK121.out 1; have hfz37_2 := blk_frozen BK121.out 2; have hfz37_3 := blk_frozen BK121.out 3; have hfz37_4 := blk_frozen BK121.out 4))
           go_ret
           exact ⟨by (rfl), by repeat ((with_reducible first | exact HB.out | refine below_set ?_ GE124.out))⟩
          ·rw [if_neg c31] at H
           have c31b0 : decide ((l0_4.length : Int) ≤ ((rd_T59 l1_3 x39_2).f0)) = false := decide_eq_false c31
           clear c31
           replace H := Option.bind_eq_some_iff.mp H
           obtain ⟨t125, A380, H⟩ := H
           have A38 := Aside0.mk A380
           clear A380
           by_cases c39 : t125 = true
           ·subst c39
            have H1 : (if ((rd_T59 l1_3 x39_2).f1) ≤ x5_2 then (some false) else (if ((rd_T59 l1_3 x39_2).f1) ≥ a1_0 then (some false) else (rule_Task.l0 k2 ((rd_T59 l1_3 x39_2).f1) l1_3 (l1_3.length : Int) (wrap64 (x39_2 + 1)) a0_0 a0_1 a0_2 a0_3 l0_4 a1_0 a1_1 a1_2 l1_3))) = some r := by rw [if_pos rfl] at H; exact H
            clear H
            have H := H1
            clear H1
            by_cases c40 : ((rd_T59 l1_3 x39_2).f1) ≤ x5_2
            ·rw [if_pos c40] at H
             have c40b0 : decide (((rd_T59 l1_3 x39_2).f1) ≤ x5_2) = true := decide_eq_true c40
             clear c40
             obtain rfl := Option.some.inj H
             have p123 : 0 ≤ (x39_2 : Int) := of_decide_eq_true (by (with_reducible assumption))
             have q123 : x39_2 < (l1_3.length : Int) := of_decide_eq_true (by (with_reducible assumption))
             obtain ⟨ad123, e123, hx123_0, hx123_1, hx123_2⟩ := at_T59 HR1_3.out x39_2 p123 q123
             cases e123
             replace hx123_0 := (HB.out.cell (World.block_lt_of_cell? w _ hx123_0)).trans hx123_0
             replace hx123_1 := (HB.out.cell (World.block_lt_of_cell? w _ hx123_1)).trans hx123_1
             replace hx123_2 := (HB.out.cell (World.block_lt_of_cell? w _ hx123_2)).trans hx123_2
             replace p123 := eq_true p123
             replace q123 := eq_true q123
             go_wp2_with (first | ((with_reducible refine gate_dst (N := 7) rfl ?_); (try (refine gate_guard (by rfl) ?_; dsimp only)); refine box_event ?hg (N := 7) ?hd (cs := #[.int .i64 0, .int .i64 0, .int .i64 0]) (t := 59) ?hr ?_; (case hd => rfl); (case hg => rfl); (case hr => (go_simp; done)); intro gb124 hg w41 hbox hb; have BK124 := Aside0.mk (hbox); have GW124 := Aside0.mk ((by rw [hg]; exact below_size HB.out : w.heap.size ≤ gb124)); have GE124 := Aside0.mk ((by rw [hg]; exact below_size HB.out : w.heap.size ≤ gb124)); have NB121_124 := Aside0.mk ((by rw [hg]; exact Nat.ne_of_lt (blk_lt BK121.out) : gb121 ≠ gb124)); have NB124_121 := Aside0.mk ((by rw [hg]; exact Nat.ne_of_gt (blk_lt BK121.out) : gb124 ≠ gb121)); have NB122_124 := Aside0.mk ((by rw [hg]; exact Nat.ne_of_lt (blk_lt BK122.out) : gb122 ≠ gb124)); have NB124_122 := Aside0.mk ((by rw [hg]; exact Nat.ne_of_gt (blk_lt BK122.out) : gb124 ≠ gb122)); replace BK121 := Aside0.mk (blk_below BK121.out hb); replace BK122 := Aside0.mk (blk_below BK122.out hb); replace HB := Aside0.mk (below_step HB.out hb); clear hb hbox hg; have hnb42 := NB124_121.out; have hnc42 := NB121_124.out; have hnb43 := NB124_122.out; have hnc43 := NB122_124.out; have hcz44_0 : w41.cell? ⟨gb124, 0, none⟩ = some (.int .i64 0) := (blk_cell BK124.out 0).trans rfl; have hcz44_1 : w41.cell? ⟨gb124, 1, none⟩ = some (.int .i64 0) := (blk_cell BK124.out 1).trans rfl; have hcz44_2 : w41.cell? ⟨gb124, 2, none⟩ = some (.int .i64 0) := (blk_cell BK124.out 2).trans rfl; have hfz44_0 := blk_frozen BK124.out 0; have hfz44_1 := blk_frozen BK124.out 1; have hfz44_2 := blk_frozen BK124.out 2; have hnb45 := NB121_122.out; have hnc45 := NB122_121.out; have hcz46_0 : w41.cell? ⟨gb121, 0, none⟩ = some (.int .i64 a0_0) := (blk_cell BK121.out 0).trans rfl; have hcz46_1 : w41.cell? ⟨gb121, 1, none⟩ = some (.int .i64 a0_1) := (blk_cell BK121.out 1).trans rfl; have hcz46_2 : w41.cell? ⟨gb121, 2, none⟩ = some (.int .i64 a0_2) := (blk_cell BK121.out 2).trans rfl; have hcz46_3 : w41.cell? ⟨gb121, 3, none⟩ = some (.int .i64 a0_3) := (blk_cell BK121.out 3).trans rfl; have hcz46_4 : w41.cell? ⟨gb121, 4, none⟩ = some (.slice A0_4 l0_4.length c0_4) := (blk_cell BK121.out 4).trans rfl; have hfz46_0 := blk_frozen BK121.out 0; have hfz46_1 := blk_frozen BK121.out 1; have hfz46_2 := blk_frozen BK121.out 2; have hfz46_3 := blk_frozen BK121.out 3; have hfz46_4 := blk_frozen BK121.out 4) | (go_at_call 56; (with_reducible refine (rule_within.calls ((rd_T59 l1_3 x39_2).f2) 1 200 true _ A38.out).mono ?_); rintro e w' ⟨rfl, ⟨nd, rfl⟩⟩))
             go_ret
             exact ⟨by (rfl), by repeat ((with_reducible first | exact HB.out | apply pw_below_drewN | refine below_set ?_ GE124.out))⟩
            ·rw [if_neg c40] at H
             have c40b0 : decide (((rd_T59 l1_3 x39_2).f1) ≤ x5_2) = false := decide_eq_false c40
             clear c40
             by_cases c47 : ((rd_T59 l1_3 x39_2).f1) ≥ a1_0
             ·rw [if_pos c47] at H
              have c47b0 : decide (a1_0 ≤ ((rd_T59 l1_3 x39_2).f1)) = true := decide_eq_true c47
              clear c47
              obtain rfl := Option.some.inj H
              have p123 : 0 ≤ (x39_2 : Int) := of_decide_eq_true (by (with_reducible assumption))
              have q123 : x39_2 < (l1_3.length : Int) := of_decide_eq_true (by (with_reducible assumption))
              obtain ⟨ad123, e123, hx123_0, hx123_1, hx123_2⟩ := at_T59 HR1_3.out x39_2 p123 q123
              cases e123
              replace hx123_0 := (HB.out.cell (World.block_lt_of_cell? w _ hx123_0)).trans hx123_0
              replace hx123_1 := (HB.out.cell (World.block_lt_of_cell? w _ hx123_1)).trans hx123_1
              replace hx123_2 := (HB.out.cell (World.block_lt_of_cell? w _ hx123_2)).trans hx123_2
              replace p123 := eq_true p123
              replace q123 := eq_true q123
              go_wp2_with (first | ((with_reducible refine gate_dst (N := 7) rfl ?_); (try (refine gate_guard (by rfl) ?_; dsimp only)); refine box_event ?hg (N := 7) ?hd (cs := #[.int .i64 0, .int .i64 0, .int .i64 0]) (t := 59) ?hr ?_; (case hd => rfl); (case hg => rfl); (case hr => (go_simp; done)); intro gb124 hg w48 hbox hb; have BK124 := Aside0.mk (hbox); have GW124 := Aside0.mk ((by rw [hg]; exact below_size HB.out : w.heap.size ≤ gb124)); have GE124 := Aside0.mk ((by rw [hg]; exact below_size HB.out : w.heap.size ≤ gb124)); have NB121_124 := Aside0.mk ((by rw [hg]; exact Nat.ne_of_lt (blk_lt BK121.out) : gb121 ≠ gb124)); have NB124_121 := Aside0.mk ((by rw [hg]; exact Nat.ne_of_gt (blk_lt BK121.out) : gb124 ≠ gb121)); have NB122_124 := Aside0.mk ((by rw [hg]; exact Nat.ne_of_lt (blk_lt BK122.out) : gb122 ≠ gb124)); have NB124_122 := Aside0.mk ((by rw [hg]; exact Nat.ne_of_gt (blk_lt BK122.out) : gb124 ≠ gb122)); replace BK121 := Aside0.mk (blk_below BK121.out hb); replace BK122 := Aside0.mk (blk_below BK122.out hb); replace HB := Aside0.mk (below_step HB.out hb); clear hb hbox hg; have hnb49 := NB124_121.out; have hnc49 := NB121_124.out; have hnb50 := NB124_122.out; have hnc50 := NB122_124.out; have hcz51_0 : w48.cell? ⟨gb124, 0, none⟩ = some (.int .i64 0) := (blk_cell BK124.out 0).trans rfl; have hcz51_1 : w48.cell? ⟨gb124, 1, none⟩ = some (.int .i64 0) := (blk_cell BK124.out 1).trans rfl; have hcz51_2 : w48.cell? ⟨gb124, 2, none⟩ = some (.int .i64 0) := (blk_cell BK124.out 2).trans rfl; have hfz51_0 := blk_frozen BK124.out 0; have hfz51_1 := blk_frozen BK124.out 1; have hfz51_2 := blk_frozen BK124.out 2; have hnb52 := NB121_122.out; have hnc52 := NB122_121.out; have hcz53_0 : w48.cell? ⟨gb121, 0, none⟩ = some (.int .i64 a0_0) := (blk_cell BK121.out 0).trans rfl; have hcz53_1 : w48.cell? ⟨gb121, 1, none⟩ = some (.int .i64 a0_1) := (blk_cell BK121.out 1).trans rfl; have hcz53_2 : w48.cell? ⟨gb121, 2, none⟩ = some (.int .i64 a0_2) := (blk_cell BK121.out 2).trans rfl; have hcz53_3 : w48.cell? ⟨gb121, 3, none⟩ = some (.int .i64 a0_3) := (blk_cell BK121.out 3).trans rfl; have hcz53_4 : w48.cell? ⟨gb121, 4, none⟩ = some (.slice A0_4 l0_4.length c0_4) := (blk_cell BK121.out 4).trans rfl; have hfz53_0 := blk_frozen BK121.out 0; have hfz53_1 := blk_frozen BK121.out 1; have hfz53_2 := blk_frozen BK121.out 2; have hfz53_3 := blk_frozen BK121.out 3; have hfz53_4 := blk_frozen BK121.out 4) | (go_at_call 56; (with_reducible refine (rule_within.calls ((rd_T59 l1_3 x39_2).f2) 1 200 true _ A38.out).mono ?_); rintro e w' ⟨rfl, ⟨nd, rfl⟩⟩; have hcz54_0 : w48.cell? ⟨gb122, 0, none⟩ = some (.int .i64 a1_0) := (blk_cell BK122.out 0).trans rfl; have hcz54_1 : w48.cell? ⟨gb122, 1, none⟩ = some (.int .i64 a1_1) := (blk_cell BK122.out 1).trans rfl; have hcz54_2 : w48.cell? ⟨gb122, 2, none⟩ = some (.int .i64 a1_2) := (blk_cell BK122.out 2).trans rfl; have hcz54_3 : w48.cell? ⟨gb122, 3, none⟩ = some (.slice (some ad123) l1_3.length c1_3) := (blk_cell BK122.out 3).trans rfl; have hfz54_0 := blk_frozen BK122.out 0; have hfz54_1 := blk_frozen BK122.out 1; have hfz54_2 := blk_frozen BK122.out 2; have hfz54_3 := blk_frozen BK122.out 3))
              go_ret
              exact ⟨by (rfl), by repeat ((with_reducible first | exact HB.out | apply pw_below_drewN | refine below_set ?_ GE124.out))⟩
             ·rw [if_neg c47] at H
              have c47b0 : decide (a1_0 ≤ ((rd_T59 l1_3 x39_2).f1)) = false := decide_eq_false c47
              clear c47
              have H' := Aside0.mk H
              clear H
              have p123 : 0 ≤ (x39_2 : Int) := of_decide_eq_true (by (with_reducible assumption))
              have q123 : x39_2 < (l1_3.length : Int) := of_decide_eq_true (by (with_reducible assumption))
              obtain ⟨ad123, e123, hx123_0, hx123_1, hx123_2⟩ := at_T59 HR1_3.out x39_2 p123 q123
              cases e123
              replace hx123_0 := (HB.out.cell (World.block_lt_of_cell? w _ hx123_0)).trans hx123_0
              replace hx123_1 := (HB.out.cell (World.block_lt_of_cell? w _ hx123_1)).trans hx123_1
              replace hx123_2 := (HB.out.cell (World.block_lt_of_cell? w _ hx123_2)).trans hx123_2
              replace p123 := eq_true p123
              replace q123 := eq_true q123
              go_wp2_with (first | ((with_reducible refine gate_dst (N := 7) rfl ?_); (try (refine gate_guard (by rfl) ?_; dsimp only)); refine box_event ?hg (N := 7) ?hd (cs := #[.int .i64 0, .int .i64 0, .int .i64 0]) (t := 59) ?hr ?_; (case hd => rfl); (case hg => rfl); (case hr => (go_simp; done)); intro gb124 hg w55 hbox hb; have BK124 := Aside0.mk (hbox); have GW124 := Aside0.mk ((by rw [hg]; exact below_size HB.out : w.heap.size ≤ gb124)); have GE124 := Aside0.mk ((by rw [hg]; exact below_size HB.out : w.heap.size ≤ gb124)); have NB121_124 := Aside0.mk ((by rw [hg]; exact Nat.ne_of_lt (blk_lt BK121.out) : gb121 ≠ gb124)); have NB124_121 := Aside0.mk ((by rw [hg]; exact Nat.ne_of_gt (blk_lt BK121.out) : gb124 ≠ gb121)); have NB122_124 := Aside0.mk ((by rw [hg]; exact Nat.ne_of_lt (blk_lt BK122.out) : gb122 ≠ gb124)); have NB124_122 := Aside0.mk ((by rw [hg]; exact Nat.ne_of_gt (blk_lt BK122.out) : gb124 ≠ gb122)); replace BK121 := Aside0.mk (blk_below BK121.out hb); replace BK122 := Aside0.mk (blk_below BK122.out hb); replace HB := Aside0.mk (below_step HB.out hb); clear hb hbox hg; have hnb56 := NB124_121.out; have hnc56 := NB121_124.out; have hnb57 := NB124_122.out; have hnc57 := NB122_124.out; have hcz58_0 : w55.cell? ⟨gb124, 0, none⟩ = some (.int .i64 0) := (blk_cell BK124.out 0).trans rfl; have hcz58_1 : w55.cell? ⟨gb124, 1, none⟩ = some (.int .i64 0) := (blk_cell BK124.out 1).trans rfl; have hcz58_2 : w55.cell? ⟨gb124, 2, none⟩ = some (.int .i64 0) := (blk_cell BK124.out 2).trans rfl; have hfz58_0 := blk_frozen BK124.out 0; have hfz58_1 := blk_frozen BK124.out 1; have hfz58_2 := blk_frozen BK124.out 2; have hnb59 := NB121_122.out; have hnc59 := NB122_121.out; have hcz60_0 : w55.cell? ⟨gb121, 0, none⟩ = some (.int .i64 a0_0) := (blk_cell BK121.out 0).trans rfl; have hcz60_1 : w55.cell? ⟨gb121, 1, none⟩ = some (.int .i64 a0_1) := (blk_cell BK121.out 1).trans rfl; have hcz60_2 : w55.cell? ⟨gb121, 2, none⟩ = some (.int .i64 a0_2) := (blk_cell BK121.out 2).trans rfl; have hcz60_3 : w55.cell? ⟨gb121, 3, none⟩ = some (.int .i64 a0_3) := (blk_cell BK121.out 3).trans rfl; have hcz60_4 : w55.cell? ⟨gb121, 4, none⟩ = some (.slice A0_4 l0_4.length c0_4) := (blk_cell BK121.out 4).trans rfl; have hfz60_0 := blk_frozen BK121.out 0; have hfz60_1 := blk_frozen BK121.out 1; have hfz60_2 := blk_frozen BK121.out 2; have hfz60_3 := blk_frozen BK121.out 3; have hfz60_4 := blk_frozen BK121.out 4) | (go_at_call 56; (with_reducible refine (rule_within.calls ((rd_T59 l1_3 x39_2).f2) 1 200 true _ A38.out).mono ?_); rintro e w' ⟨rfl, ⟨nd, rfl⟩⟩; have hcz61_0 : w55.cell? ⟨gb122, 0, none⟩ = some (.int .i64 a1_0) := (blk_cell BK122.out 0).trans rfl; have hcz61_1 : w55.cell? ⟨gb122, 1, none⟩ = some (.int .i64 a1_1) := (blk_cell BK122.out 1).trans rfl; have hcz61_2 : w55.cell? ⟨gb122, 2, none⟩ = some (.int .i64 a1_2) := (blk_cell BK122.out 2).trans rfl; have hcz61_3 : w55.cell? ⟨gb122, 3, none⟩ = some (.slice (some ad123) l1_3.length c1_3) := (blk_cell BK122.out 3).trans rfl; have hfz61_0 := blk_frozen BK122.out 0; have hfz61_1 := blk_frozen BK122.out 1; have hfz61_2 := blk_frozen BK122.out 2; have hfz61_3 := blk_frozen BK122.out 3))
              go_roundg k2
              case measure => have := HJ2.out; have := HK2.out; omega
              case rel => exact ⟨((rd_T59 l1_3 x39_2).f1), (wrap64 (x39_2 + 1)), (by (rfl)), (by (rfl)), H', ⟨by have := HJ2.out; have := HK2.out; omega⟩, ⟨by (with_reducible repeat ((refine blk_drewN ?_ _))); refine blk_far ?_ NB121_124.out _; refine blk_far ?_ NB121_124.out _; refine blk_far ?_ NB121_124.out _; exact BK121.out⟩, ⟨by (with_reducible repeat ((refine blk_drewN ?_ _))); refine blk_far ?_ NB122_124.out _; refine blk_far ?_ NB122_124.out _; refine blk_far ?_ NB122_124.out _; exact BK122.out⟩, ⟨by repeat ((with_reducible first | exact HB.out | apply pw_below_drewN | refine below_set ?_ GE124.out))⟩⟩
           ·replace c39 := Bool.eq_false_iff.mpr c39
            subst c39
            have H1 : (some false) = some r := by rw [if_neg (show ¬ (false = true) by decide)] at H; exact H
            clear H
            have H := H1
            clear H1
            obtain rfl := Option.some.inj H
            have p123 : 0 ≤ (x39_2 : Int) := of_decide_eq_true (by (with_reducible assumption))
            have q123 : x39_2 < (l1_3.length : Int) := of_decide_eq_true (by (with_reducible assumption))
            obtain ⟨ad123, e123, hx123_0, hx123_1, hx123_2⟩ := at_T59 HR1_3.out x39_2 p123 q123
            cases e123
            replace hx123_0 := (HB.out.cell (World.block_lt_of_cell? w _ hx123_0)).trans hx123_0
            replace hx123_1 := (HB.out.cell (World.block_lt_of_cell? w _ hx123_1)).trans hx123_1
            replace hx123_2 := (HB.out.cell (World.block_lt_of_cell? w _ hx123_2)).trans hx123_2
            replace p123 := eq_true p123
            replace q123 := eq_true q123
            go_wp2_with (first | ((with_reducible refine gate_dst (N := 7) rfl ?_); (try (refine gate_guard (by rfl) ?_; dsimp only)); refine box_event ?hg (N := 7) ?hd (cs := #[.int .i64 0, .int .i64 0, .int .i64 0]) (t := 59) ?hr ?_; (case hd => rfl); (case hg => rfl); (case hr => (go_simp; done)); intro gb124 hg w62 hbox hb; have BK124 := Aside0.mk (hbox); have GW124 := Aside0.mk ((by rw [hg]; exact below_size HB.out : w.heap.size ≤ gb124)); have GE124 := Aside0.mk ((by rw [hg]; exact below_size HB.out : w.heap.size ≤ gb124)); have NB121_124 := Aside0.mk ((by rw [hg]; exact Nat.ne_of_lt (blk_lt BK121.out) : gb121 ≠ gb124)); have NB124_121 := Aside0.mk ((by rw [hg]; exact Nat.ne_of_gt (blk_lt BK121.out) : gb124 ≠ gb121)); have NB122_124 := Aside0.mk ((by rw [hg]; exact Nat.ne_of_lt (blk_lt BK122.out) : gb122 ≠ gb124)); have NB124_122 := Aside0.mk ((by rw [hg]; exact Nat.ne_of_gt (blk_lt BK122.out) : gb124 ≠ gb122)); replace BK121 := Aside0.mk (blk_below BK121.out hb); replace BK122 := Aside0.mk (blk_below BK122.out hb); replace HB := Aside0.mk (below_step HB.out hb); clear hb hbox hg; have hnb63 := NB124_121.out; have hnc63 := NB121_124.out; have hnb64 := NB124_122.out; have hnc64 := NB122_124.out; have hcz65_0 : w62.cell? ⟨gb124, 0, none⟩ = some (.int .i64 0) := (blk_cell BK124.out 0).trans rfl; have hcz65_1 : w62.cell? ⟨gb124, 1, none⟩ = some (.int .i64 0) := (blk_cell BK124.out 1).trans rfl; have hcz65_2 : w62.cell? ⟨gb124, 2, none⟩ = some (.int .i64 0) := (blk_cell BK124.out 2).trans rfl; have hfz65_0 := blk_frozen BK124.out 0; have hfz65_1 := blk_frozen BK124.out 1; have hfz65_2 := blk_frozen BK124.out 2; have hnb66 := NB121_122.out; have hnc66 := NB122_121.out; have hcz67_0 : w62.cell? ⟨gb121, 0, none⟩ = some (.int .i64 a0_0) := (blk_cell BK121.out 0).trans rfl; have hcz67_1 : w62.cell? ⟨gb121, 1, none⟩ = some (.int .i64 a0_1) := (blk_cell BK121.out 1).trans rfl; have hcz67_2 : w62.cell? ⟨gb121, 2, none⟩ = some (.int .i64 a0_2) := (blk_cell BK121.out 2).trans rfl; have hcz67_3 : w62.cell? ⟨gb121, 3, none⟩ = some (.int .i64 a0_3) := (blk_cell BK121.out 3).trans rfl; have hcz67_4 : w62.cell? ⟨gb121, 4, none⟩ = some (.slice A0_4 l0_4.length c0_4) := (blk_cell BK121.out 4).trans rfl; have hfz67_0 := blk_frozen BK121.out 0; have hfz67_1 := blk_frozen BK121.out 1; have hfz67_2 := blk_frozen BK121.out 2; have hfz67_3 := blk_frozen BK121.out 3; have hfz67_4 := blk_frozen BK121.out 4) | (go_at_call 56; (with_reducible refine (rule_within.calls ((rd_T59 l1_3 x39_2).f2) 1 200 false _ A38.out).mono ?_); rintro e w' ⟨rfl, ⟨nd, rfl⟩⟩))
            go_ret
            exact ⟨by (rfl), by repeat ((with_reducible first | exact HB.out | apply pw_below_drewN | refine below_set ?_ GE124.out))⟩
        ·rw [if_neg c25] at H
         exact absurd H (by simp)
       ·rw [if_neg c24] at H
        exact absurd H (by simp)
      ·rw [if_neg c23] at H
       have c23b0 : decide (x39_2 < (l1_3.length : Int)) = false := decide_eq_false c23
       clear c23
       obtain rfl := Option.some.inj H
       go_wp2
       go_ret
       exact ⟨by (rfl), by repeat ((with_reducible (exact HB.out)))⟩

/-! ### note_widest: function 71 -/
def note_widest.f  : Option (Int × Int × Int × Int × List Int) := if 6 ≤ 35184372088832 then (some (1, 1, 0, 0, (List.replicate 6 0))) else (none)
set_option maxHeartbeats 8000000 in
set_option maxRecDepth 100000 in
theorem note_widest.calls  (r1 : Int) (r2 : Int) (r3 : Int) (r4 : Int) (r5 : List Int) (w : World) (h : note_widest.f  = some (r1, r2, r3, r4, r5)) :
  Calls Tryz.prog 71 #[] w fun e w' => ∃ v4_ : Value, e = .returned (.agg #[.int .i64 r1, .int .i64 r2, .int .i64 r3, .int .i64 r4, v4_]) ∧ Kd.R (Kd.int .i64) 3 w' w.heap.size (fun _ => True) v4_ r5 ∧ Below w.heap.size w w' := by
 have hu57 := Tryz.underlying57
 have HB := Aside0.mk (Below.refl w.heap.size w)
 have H : (if 6 ≤ 35184372088832 then (some (1, 1, 0, 0, (List.replicate 6 0))) else (none)) = some (r1, r2, r3, r4, r5) := h
 clear h
 by_cases c1 : 6 ≤ 35184372088832
 ·rw [if_pos c1] at H
  have c1b0 := eq_true c1
  have c1b1 : decide (6 ≤ 35184372088832) = true := decide_eq_true c1
  clear c1
  obtain ⟨y127, hy127⟩ : ∃ y_ : List Int, y_ = (List.replicate 6 0) := ⟨_, rfl⟩
  replace H : (some (1, 1, 0, 0, y127)) = some (r1, r2, r3, r4, r5) := by (rw [hy127]; with_reducible exact H)
  have Ny127 := Aside0.mk hy127
  clear hy127
  simp only [Option.some.injEq, Prod.mk.injEq] at H
  obtain ⟨rfl, rfl, rfl, rfl, rfl⟩ := H
  go_enter Tryz.func71, Tryz.ntmps71
  go_wp2_with (first | ((with_reducible refine gate_dst (N := 0) rfl ?_); refine box_event ?hg (N := 0) ?hd (cs := #[.int .i64 0, .int .i64 0, .int .i64 0, .int .i64 0, .slice none 0 0]) (t := 57) ?hr ?_; (case hd => rfl); (case hg => rfl); (case hr => (go_simp; done)); intro gb126 hg w2 hbox hb; have BK126 := Aside0.mk (hbox); have GW126 := Aside0.mk ((by rw [hg]; exact below_size HB.out : w.heap.size ≤ gb126)); have GE126 := Aside0.mk ((by rw [hg]; exact below_size HB.out : w.heap.size ≤ gb126)); replace HB := Aside0.mk (below_step HB.out hb); clear hb hbox hg) | ((with_reducible refine gate_dst (N := 1) rfl ?_); refine Kd.R_make (Kd.int .i64) _ 3 rfl (N := 1) rfl 34 _ _ rfl 6 rfl rfl Tryz.underlying34 (.int .i64 0) 8 info3 rfl (by decide) (by omega) 0 (ok := fun _ => True) (okp := fun _ => True) rfl (fun _ hk => hk) trivial (by omega) (by omega) (Below.refl _ _) (Nat.le_refl _) ?_; intro v128 w3 ho4 hb hg_ hnew_; clear hg_ hnew_; ((simp only [Int.reduceToNat] at ho4; rw [← Ny127.out] at ho4)); have HO129 := Aside0.mk (Kd.R_lower ho4 (below_size HB.out)); replace BK126 := Aside0.mk (blk_below BK126.out hb); replace HB := Aside0.mk (below_step HB.out hb); clear hb ho4; obtain ⟨Ao5, co5, eo5⟩ := Kd.R_slice HO129.out; subst eo5; have hcz6_0 : w3.cell? ⟨gb126, 0, none⟩ = some (.int .i64 0) := (blk_cell BK126.out 0).trans rfl; have hcz6_1 : w3.cell? ⟨gb126, 1, none⟩ = some (.int .i64 0) := (blk_cell BK126.out 1).trans rfl; have hcz6_2 : w3.cell? ⟨gb126, 2, none⟩ = some (.int .i64 0) := (blk_cell BK126.out 2).trans rfl; have hcz6_3 : w3.cell? ⟨gb126, 3, none⟩ = some (.int .i64 0) := (blk_cell BK126.out 3).trans rfl; have hcz6_4 : w3.cell? ⟨gb126, 4, none⟩ = some (.slice none 0 0) := (blk_cell BK126.out 4).trans rfl; have hfz6_0 := blk_frozen BK126.out 0; have hfz6_1 := blk_frozen BK126.out 1; have hfz6_2 := blk_frozen BK126.out 2; have hfz6_3 := blk_frozen BK126.out 3; have hfz6_4 := blk_frozen BK126.out 4))
  refine bodyPost_ret (results_cell_row rfl _ _ gb126 57 #[.int .i64 1, .int .i64 1, .int .i64 0, .int .i64 0, .slice Ao5 y127.length co5] (0, 0) _ rfl (by refine blk_put (cs := #[.int .i64 1, .int .i64 1, .int .i64 0, .int .i64 0, .slice none 0 0]) ?_ 4 _ rfl; refine blk_put (cs := #[.int .i64 1, .int .i64 1, .int .i64 0, .int .i64 0, .slice none 0 0]) ?_ 3 _ rfl; refine blk_put (cs := #[.int .i64 1, .int .i64 1, .int .i64 0, .int .i64 0, .slice none 0 0]) ?_ 2 _ rfl; refine blk_put (cs := #[.int .i64 1, .int .i64 0, .int .i64 0, .int .i64 0, .slice none 0 0]) ?_ 1 _ rfl; refine blk_put (cs := #[.int .i64 0, .int .i64 0, .int .i64 0, .int .i64 0, .slice none 0 0]) ?_ 0 _ rfl; exact BK126.out) Tryz.underlying57 rfl (by kernel_rfl)) rfl ?_
  exact ⟨_, by (rfl), by exact Kd.R_mono (Kd.R_far (p := ⟨gb126, 4, none⟩) (Kd.R_far (p := ⟨gb126, 3, none⟩) (Kd.R_far (p := ⟨gb126, 2, none⟩) (Kd.R_far (p := ⟨gb126, 1, none⟩) (Kd.R_far (p := ⟨gb126, 0, none⟩) (Kd.R_types HO129.out BK126.out (by decide)) (fun _ hk => hk.2) (.int .i64 1)) (fun _ hk => hk.2) (.int .i64 1)) (fun _ hk => hk.2) (.int .i64 0)) (fun _ hk => hk.2) (.int .i64 0)) (fun _ hk => hk.2) (.slice Ao5 y127.length co5)) (fun _ hk => trivial), by repeat ((with_reducible first | exact HB.out | refine below_set ?_ GE126.out))⟩
 ·rw [if_neg c1] at H
  exact absurd H (by simp)

end Go.Proofs.YtddepomgaeadpaaGreatDoor.PBeg
