-- Written by a program of this session (wip/pp.py) over the kit's print, with hand-proved contracts beside it.
import Derived.Test.YtddepomgaeadpaaGreatDoorPAllx0
import Derived.Test.YtddepomgaeadpaaGreatDoorPAllx1
namespace Go.Proofs.YtddepomgaeadpaaGreatDoor.PAll
open Go.Shelf Go.Lib Go.RowKit Go.Proofs.YtddepomgaeadpaaGreatDoorW.PrintWords Go.Proofs.YtddepomgaeadpaaGreatDoorW.PrintLast Go.Proofs.YtddepomgaeadpaaGreatDoorW.PrintMore
attribute [local go_sem] max2_int min2_int max_two min_two max_three min_three max_four min_four   -- for this text's walks alone
set_option linter.unusedVariables false
set_option linter.unusedSimpArgs false

/-! ### demand_Bound: function 32 -/
def demand_Bound.s (t : Int) : List S31 → Int → Option Int
 | [], n => some n
 | x :: l, n => (demand_due.f x.f0 x.f1 x.f2 t).bind fun d => demand_Bound.s t l (wrap64 (n + d))
def demand_Bound.f (l0 : List S31) (a1 : Int) : Option Int := if (l0.all loadOk) = true then (if l0.length ≤ 24 then (if a1 < 0 then some 0 else if a1 > 20000 then some 0 else demand_Bound.s a1 l0 0) else some 0) else some 0
theorem getD_drop {l : List S31} {k : Nat} (hk : k < l.length) : l.drop k = l.getD k z31 :: l.drop (k + 1) := by
 rw [List.drop_eq_getElem_cons hk]
 simp [List.getD_eq_getElem?_getD, List.getElem?_eq_getElem hk]
set_option maxHeartbeats 8000000 in
theorem demand_Bound.calls (A0 : Option Addr) (c0 : Nat) (l0 : List S31) (a1 : Int) (r : Int) (w : World) (hr0 : Kd.C k31 w A0 l0.length l0) (hc0 : l0.length ≤ c0) (h : demand_Bound.f l0 a1 = some r) :
  Calls Tryz.prog 32 #[.slice A0 l0.length c0, .int .i64 a1] w fun e w' => e = .returned (.int .i64 r) ∧ Below w.heap.size w w' := by
 have hL : l0.length ≤ 9223372036854775807 := hr0.2.1
 have HR := Aside0.mk hr0
 clear hr0
 unfold demand_Bound.f at h
 by_cases c1 : l0.all loadOk = true
 ·rw [if_pos c1] at h
  by_cases c2 : l0.length ≤ 24
  ·rw [if_pos c2] at h
   by_cases c3 : a1 < 0
   ·rw [if_pos c3] at h
    injection h with h
    subst h
    go_enter Tryz.func32, Tryz.ntmps32
    go_wp2_with (go_at_call 45; refine (any_calls 46 (enters_of Tryz.func46 (by kernel_rfl) rfl) pred46 A0 c0 l0 _ HR.out).mono ?_; rw [c1]; rintro e w' ⟨rfl, hb⟩)
    all_goals (go_ret; exact ⟨rfl, hb⟩)
   ·rw [if_neg c3] at h
    by_cases c4 : a1 > 20000
    ·rw [if_pos c4] at h
     injection h with h
     subst h
     go_enter Tryz.func32, Tryz.ntmps32
     go_wp2_with (go_at_call 45; refine (any_calls 46 (enters_of Tryz.func46 (by kernel_rfl) rfl) pred46 A0 c0 l0 _ HR.out).mono ?_; rw [c1]; rintro e w' ⟨rfl, hb⟩)
     all_goals (go_ret; exact ⟨rfl, hb⟩)
    ·rw [if_neg c4] at h
     have H := Aside0.mk h
     clear h
     have c2' : ((l0.length : Int) ≤ 24) := by omega
     go_enter Tryz.func32, Tryz.ntmps32
     go_wp2_with (go_at_call 45; refine (any_calls 46 (enters_of Tryz.func46 (by kernel_rfl) rfl) pred46 A0 c0 l0 _ HR.out).mono ?_; rw [c1]; rintro e w' ⟨rfl, hb⟩)
     have HB := Aside0.mk hb
     clear hb
     go_loopw [6, 27] (fun n i wr => ∃ (k : Nat) (m : Int), i = .int .i64 (k : Int) ∧ n = .int .i64 m ∧ k ≤ l0.length ∧ Aside0 (demand_Bound.s a1 (l0.drop k) m = some r) ∧ Aside0 (Below w.heap.size w wr)) (fun _ i _ => l0.length - (Go.RowKit.intOf i).toNat)
     case atStart => exact ⟨0, 0, rfl, rfl, Nat.zero_le _, H, HB⟩
     case round =>
      clear HB H
      obtain ⟨k, m, rfl, rfl, hk, H, HB⟩ := hrel
      by_cases c5 : (k : Int) < (l0.length : Int)
      ·have H1 := H.out
       rw [getD_drop (show k < l0.length by omega), demand_Bound.s] at H1
       obtain ⟨d, A4, H2⟩ := Option.bind_eq_some_iff.mp H1
       have A5 := Aside0.mk A4
       have H' := Aside0.mk H2
       clear A4 H2 H1 H
       obtain ⟨ad, e379, hx0, hx1, hx2⟩ := at_T31 HR.out (k : Int) (by omega) c5
       cases e379
       have g : rd_T31 l0 (k : Int) = l0.getD k z31 := by simp [rd_T31]
       rw [g] at hx0 hx1 hx2
       simp only [Int.toNat_natCast] at hx0 hx1 hx2
       replace hx0 := (HB.out.cell (World.block_lt_of_cell? w _ hx0)).trans hx0
       replace hx1 := (HB.out.cell (World.block_lt_of_cell? w _ hx1)).trans hx1
       replace hx2 := (HB.out.cell (World.block_lt_of_cell? w _ hx2)).trans hx2
       clear g
       generalize l0.getD k z31 = x at hx0 hx1 hx2 A5
       have c6 : (0 : Int) ≤ (k : Int) := by omega
       go_wp2_with (go_at_call 48; refine (demand_due.calls x.f0 x.f1 x.f2 a1 d _ A5.out).mono ?_; rintro e w' ⟨rfl, hd⟩)
       have hb2 : Below w.heap.size w w' := (HB.out.alloc HB.out.size _).trans (hd.mono (by have := HB.out.size; simp; omega))
       refine ⟨⟨k + 1, wrap64 (m + d), by go_num, rfl, by omega, H', ⟨hb2⟩⟩, ?_⟩
       simp [Go.RowKit.intOf]; omega
      ·have hke : k = l0.length := by omega
       subst hke
       have H1 := H.out
       rw [List.drop_length, demand_Bound.s] at H1
       injection H1 with H1
       subst H1
       go_wp2
       go_ret
       exact ⟨rfl, HB.out⟩
  ·rw [if_neg c2] at h
   injection h with h
   subst h
   have c2' : ¬ ((l0.length : Int) ≤ 24) := by omega
   go_enter Tryz.func32, Tryz.ntmps32
   go_wp2_with (go_at_call 45; refine (any_calls 46 (enters_of Tryz.func46 (by kernel_rfl) rfl) pred46 A0 c0 l0 _ HR.out).mono ?_; rw [c1]; rintro e w' ⟨rfl, hb⟩)
   all_goals (go_ret; exact ⟨rfl, hb⟩)
 ·rw [if_neg c1] at h
  injection h with h
  subst h
  have c1' : l0.all loadOk = false := by simpa using c1
  go_enter Tryz.func32, Tryz.ntmps32
  go_wp2_with (go_at_call 45; refine (any_calls 46 (enters_of Tryz.func46 (by kernel_rfl) rfl) pred46 A0 c0 l0 _ HR.out).mono ?_; rw [c1']; rintro e w' ⟨rfl, hb⟩)
  all_goals (go_ret; exact ⟨rfl, hb⟩)


/-! ### demand_First: function 30 -/
mutual
def demand_First.l0 : Nat → List (S31) → Int → Int → List (S31) → Int → Int → Option (Int × Bool)
 | 0, _, _, _, _, _, _ => none
 | k + 1, x0, x4, x6, x19, x20, x21 => if x21 < x20 then (if 0 ≤ x21 then (if x21 < (x19.length : Int) then (demand_First.l1 k x0 x4 x6 ((rd_T31 x19 x21).f1) x19 x20 x21 ((rd_T31 x19 x21).f0) ((rd_T31 x19 x21).f1) ((rd_T31 x19 x21).f2)) else (none)) else (none)) else (if x6 > x4 then (some (0, false)) else (some (x6, true)))
def demand_First.l1 : Nat → List (S31) → Int → Int → Int → List (S31) → Int → Int → Int → Int → Int → Option (Int × Bool)
 | 0, _, _, _, _, _, _, _, _, _, _ => none
 | k + 1, x0, x4, x6, x9, x19, x20, x21, x113000, x113001, x113002 => if x9 < x6 then ((demand_Bound.f x0 x9).bind fun t113 => (if t113 > x9 then (demand_First.l1 k x0 x4 x9 (wrap64 (x9 + x113002)) x19 x20 x21 x113000 x113001 x113002) else (demand_First.l1 k x0 x4 x6 (wrap64 (x9 + x113002)) x19 x20 x21 x113000 x113001 x113002))) else (demand_First.l0 k x0 x4 x6 x19 x20 (wrap64 (x21 + 1)))
end
def demand_First.f (k : Nat) (l0 : List (S31)) : Option (Int × Bool) := (busy_Time.f k l0).bind fun bt109 => (if bt109.2 = true then (demand_First.l0 k l0 bt109.1 (wrap64 (bt109.1 + 1)) l0 (l0.length : Int) 0) else (some (0, false)))
theorem demand_First.mono_l : ∀ k, (∀ y0 y1 y2 y3 y4 y5, LeO (demand_First.l0 k y0 y1 y2 y3 y4 y5) (demand_First.l0 (k + 1) y0 y1 y2 y3 y4 y5)) ∧ (∀ y0 y1 y2 y3 y4 y5 y6 y7 y8 y9, LeO (demand_First.l1 k y0 y1 y2 y3 y4 y5 y6 y7 y8 y9) (demand_First.l1 (k + 1) y0 y1 y2 y3 y4 y5 y6 y7 y8 y9))
 | 0 => ⟨fun _ _ _ _ _ _ r h => by simp [demand_First.l0] at h, fun _ _ _ _ _ _ _ _ _ _ r h => by simp [demand_First.l1] at h⟩
 | k + 1 => by
  obtain ⟨ih0, ih1⟩ := demand_First.mono_l k
  refine ⟨?_, ?_⟩
  ·intro y0 y1 y2 y3 y4 y5
   unfold demand_First.l0
   repeat' first
   | (with_reducible exact ih0 _ _ _ _ _ _)
   | (with_reducible exact ih1 _ _ _ _ _ _ _ _ _ _)
   | (with_reducible exact busy_Time.mono _ _)
   | (with_reducible exact LeO.refl _)
   | (with_reducible exact LeO.none _)
   | (with_reducible refine LeO.ite ?_ ?_)
   | (with_reducible refine LeO.bind ?_ (fun _ => ?_))
   | exact ih0 _ _ _ _ _ _
   | exact ih1 _ _ _ _ _ _ _ _ _ _
   | exact busy_Time.mono _ _
   | exact LeO.none _
   | refine LeO.ite ?_ ?_
   | refine LeO.bind ?_ (fun _ => ?_)
  ·intro y0 y1 y2 y3 y4 y5 y6 y7 y8 y9
   unfold demand_First.l1
   repeat' first
   | (with_reducible exact ih0 _ _ _ _ _ _)
   | (with_reducible exact ih1 _ _ _ _ _ _ _ _ _ _)
   | (with_reducible exact busy_Time.mono _ _)
   | (with_reducible exact LeO.refl _)
   | (with_reducible exact LeO.none _)
   | (with_reducible refine LeO.ite ?_ ?_)
   | (with_reducible refine LeO.bind ?_ (fun _ => ?_))
   | exact ih0 _ _ _ _ _ _
   | exact ih1 _ _ _ _ _ _ _ _ _ _
   | exact busy_Time.mono _ _
   | exact LeO.none _
   | refine LeO.ite ?_ ?_
   | refine LeO.bind ?_ (fun _ => ?_)
theorem demand_First.mono : ∀ a0 k, LeO (demand_First.f k a0) (demand_First.f (k + 1) a0) := by
 intro a0 k
 obtain ⟨ih0, ih1⟩ := demand_First.mono_l k
 unfold demand_First.f
 repeat' first
   | (with_reducible exact ih0 _ _ _ _ _ _)
   | (with_reducible exact ih1 _ _ _ _ _ _ _ _ _ _)
   | (with_reducible exact busy_Time.mono _ _)
   | (with_reducible exact LeO.refl _)
   | (with_reducible exact LeO.none _)
   | (with_reducible refine LeO.ite ?_ ?_)
   | (with_reducible refine LeO.bind ?_ (fun _ => ?_))
   | exact ih0 _ _ _ _ _ _
   | exact ih1 _ _ _ _ _ _ _ _ _ _
   | exact busy_Time.mono _ _
   | exact LeO.none _
   | refine LeO.ite ?_ ?_
   | refine LeO.bind ?_ (fun _ => ?_)
set_option maxHeartbeats 8000000 in
set_option maxRecDepth 100000 in
theorem demand_First.calls (k : Nat) (A0 : Option Addr) (c0 : Nat) (l0 : List (S31)) (r1 : Int) (r2 : Bool) (w : World) (hr0 : Kd.C k31 w A0 l0.length l0) (hc0 : l0.length ≤ c0) (h : demand_First.f k l0 = some (r1, r2)) :
  Calls Tryz.prog 30 #[.slice A0 l0.length c0] w fun e w' => e = .returned (.tuple #[.int .i64 r1, .bool r2]) ∧ Below w.heap.size w w' := by
 have hu31 := Tryz.underlying31
 have HR0 := Aside0.mk hr0
 have HC0 := Aside0.mk hc0
 clear hr0 hc0
 have HB := Aside0.mk (Below.refl w.heap.size w)
 have H : ((busy_Time.f k l0).bind fun bt109 => (if bt109.2 = true then (demand_First.l0 k l0 bt109.1 (wrap64 (bt109.1 + 1)) l0 (l0.length : Int) 0) else (some (0, false)))) = some (r1, r2) := h
 clear h
 replace H := Option.bind_eq_some_iff.mp H
 obtain ⟨⟨t109, t110⟩, A20, H⟩ := H
 have A2 := Aside0.mk A20
 clear A20
 by_cases c3 : t110 = true
 ·subst c3
  have H1 : (demand_First.l0 k l0 t109 (wrap64 (t109 + 1)) l0 (l0.length : Int) 0) = some (r1, r2) := by rw [if_pos rfl] at H; exact H
  clear H
  have H := H1
  clear H1
  have H' := Aside0.mk H
  clear H
  go_enter Tryz.func30, Tryz.ntmps30
  go_wp2_with (((with_reducible refine gate_callee (f := 25) rfl ?_); refine goesL_ (some 12) rfl rfl Tryz.func25 (by kernel_rfl) rfl #[.slice A0 l0.length c0] rfl (by (try simp only [List.map_toArray, List.map_cons, List.map_nil]); (rfl)) ?_; (with_reducible refine (busy_Time.calls k _ _ l0 t109 true _ ?side1 ?side2 A2.out).mono ?_); (case side1 => repeat ((exact HR0.out))); (case side2 => exact HC0.out); rintro e w4 ⟨rfl, hb⟩; refine ⟨_, rfl, ?_⟩; replace HB := Aside0.mk (below_step HB.out hb); (try clear hb); (try clear hb2); (try clear hk); (try clear hi)))
  go_loopg [6, 21] k (fun kq v6 v21 w' => ∃ (x6_1 : Int) (x21_1 : Int), v6 = .int .i64 x6_1 ∧ v21 = .int .i64 x21_1 ∧ Aside0 (demand_First.l0 kq l0 t109 x6_1 l0 (l0.length : Int) x21_1 = some (r1, r2)) ∧ Aside0 (kq ≤ k) ∧ Aside0 (Below w.heap.size w w'))
  case atStart => exact ⟨(wrap64 (t109 + 1)), (0), (by (rfl)), (by (rfl)), H', ⟨Nat.le_refl _⟩, ⟨HB.out⟩⟩
  case round =>
   clear H'
   obtain ⟨x6_1, x21_1, rfl, rfl, HA, HK1, HB⟩ := hrel
   cases gk with
   | zero => exact absurd HA.out (by simp [demand_First.l0])
   | succ k1 =>
    have H := HA.out
    clear HA
    simp only [demand_First.l0] at H
    by_cases c5 : x21_1 < (l0.length : Int)
    ·rw [if_pos c5] at H
     have c5b0 : decide (x21_1 < (l0.length : Int)) = true := decide_eq_true c5
     clear c5
     by_cases c6 : 0 ≤ x21_1
     ·rw [if_pos c6] at H
      have c6b0 : decide (0 ≤ x21_1) = true := decide_eq_true c6
      clear c6
      by_cases c7 : x21_1 < (l0.length : Int)
      ·rw [if_pos c7] at H
       have c7b0 : decide (x21_1 < (l0.length : Int)) = true := decide_eq_true c7
       clear c7
       have H' := Aside0.mk H
       clear H
       have p111 : 0 ≤ (x21_1 : Int) := of_decide_eq_true (by (with_reducible assumption))
       have q111 : x21_1 < (l0.length : Int) := of_decide_eq_true (by (with_reducible assumption))
       obtain ⟨ad111, e111, hx111_0, hx111_1, hx111_2⟩ := at_T31 HR0.out x21_1 p111 q111
       cases e111
       replace hx111_0 := (HB.out.cell (World.block_lt_of_cell? w _ hx111_0)).trans hx111_0
       replace hx111_1 := (HB.out.cell (World.block_lt_of_cell? w _ hx111_1)).trans hx111_1
       replace hx111_2 := (HB.out.cell (World.block_lt_of_cell? w _ hx111_2)).trans hx111_2
       replace p111 := eq_true p111
       replace q111 := eq_true q111
       go_wp2_with (((with_reducible refine gate_dst (N := 8) rfl ?_); refine box_event ?hg (N := 8) ?hd (cs := #[.int .i64 0, .int .i64 0, .int .i64 0]) (t := 31) ?hr ?_; (case hd => rfl); (case hg => rfl); (case hr => (go_simp; done)); intro gb112 hg w8 hbox hb; have BK112 := Aside0.mk (hbox); have GW112 := Aside0.mk ((by rw [hg]; exact below_size HB.out : w.heap.size ≤ gb112)); have GE112 := Aside0.mk ((by rw [hg]; exact below_size HB.out : w.heap.size ≤ gb112)); replace HB := Aside0.mk (below_step HB.out hb); clear hb hbox hg; have hcz9_0 : w8.cell? ⟨gb112, 0, none⟩ = some (.int .i64 0) := (blk_cell BK112.out 0).trans rfl; have hcz9_1 : w8.cell? ⟨gb112, 1, none⟩ = some (.int .i64 0) := (blk_cell BK112.out 1).trans rfl; have hcz9_2 : w8.cell? ⟨gb112, 2, none⟩ = some (.int .i64 0) := (blk_cell BK112.out 2).trans rfl; have hfz9_0 := blk_frozen BK112.out 0; have hfz9_1 := blk_frozen BK112.out 1; have hfz9_2 := blk_frozen BK112.out 2))
       go_loopg [6, 9] k1 (fun kq v6 v9 w' => ∃ (x6_2 : Int) (x9_2 : Int), v6 = .int .i64 x6_2 ∧ v9 = .int .i64 x9_2 ∧ Aside0 (demand_First.l1 kq l0 t109 x6_2 x9_2 l0 (l0.length : Int) x21_1 ((rd_T31 l0 x21_1).f0) ((rd_T31 l0 x21_1).f1) ((rd_T31 l0 x21_1).f2) = some (r1, r2)) ∧ Aside0 (kq ≤ k1) ∧ Aside0 (w'.heap[gb112]? = some (.cells #[.int .i64 ((rd_T31 l0 x21_1).f0), .int .i64 ((rd_T31 l0 x21_1).f1), .int .i64 ((rd_T31 l0 x21_1).f2)] 31 (0, 0))) ∧ Aside0 (Below w.heap.size w w'))
       case atStart => exact ⟨(x6_1), ((rd_T31 l0 x21_1).f1), (by (rfl)), (by (rfl)), H', ⟨Nat.le_refl _⟩, ⟨by refine blk_put (cs := #[.int .i64 ((rd_T31 l0 x21_1).f0), .int .i64 ((rd_T31 l0 x21_1).f1), .int .i64 0]) ?_ 2 _ rfl; refine blk_put (cs := #[.int .i64 ((rd_T31 l0 x21_1).f0), .int .i64 0, .int .i64 0]) ?_ 1 _ rfl; refine blk_put (cs := #[.int .i64 0, .int .i64 0, .int .i64 0]) ?_ 0 _ rfl; exact BK112.out⟩, ⟨by repeat ((with_reducible first | exact HB.out | refine below_set ?_ GE112.out))⟩⟩
       case round =>
        clear H'
        try clear c5b0
        try clear c6b0
        try clear c7b0
        try clear hcz9_0
        try clear hcz9_1
        try clear hcz9_2
        try clear hfz9_0
        try clear hfz9_1
        try clear hfz9_2
        try clear hx111_0
        try clear hx111_1
        try clear hx111_2
        try clear p111
        try clear q111
        obtain ⟨x6_2, x9_2, rfl, rfl, HA, HK2, BK112, HB⟩ := hrel
        cases gk with
        | zero => exact absurd HA.out (by simp [demand_First.l1])
        | succ k2 =>
         have H := HA.out
         clear HA
         simp only [demand_First.l1] at H
         by_cases c10 : x9_2 < x6_2
         ·rw [if_pos c10] at H
          have c10b0 : decide (x9_2 < x6_2) = true := decide_eq_true c10
          clear c10
          replace H := Option.bind_eq_some_iff.mp H
          obtain ⟨t113, A110, H⟩ := H
          have A11 := Aside0.mk A110
          clear A110
          by_cases c12 : t113 > x9_2
          ·rw [if_pos c12] at H
           have c12b0 : decide (x9_2 < t113) = true := decide_eq_true c12
           clear c12
           have H' := Aside0.mk H
           clear H
           go_wp2_with (((with_reducible refine gate_callee (f := 32) rfl ?_); refine goesL_ (some 36) rfl rfl Tryz.func32 (by kernel_rfl) rfl #[.slice (some ad111) l0.length c0, .int .i64 x9_2] rfl (by (try simp only [List.map_toArray, List.map_cons, List.map_nil]); (rfl)) ?_; (with_reducible refine (demand_Bound.calls _ _ l0 x9_2 t113 _ ?side1 ?side2 A11.out).mono ?_); (case side1 => repeat ((exact (Kd.C_below HR0.out HB.out)))); (case side2 => exact HC0.out); rintro e w13 ⟨rfl, hb⟩; refine ⟨_, rfl, ?_⟩; replace BK112 := Aside0.mk (blk_below BK112.out hb); replace HB := Aside0.mk (below_step HB.out hb); (try clear hb); (try clear hb2); (try clear hk); (try clear hi); have hcz14_0 : w13.cell? ⟨gb112, 0, none⟩ = some (.int .i64 ((rd_T31 l0 x21_1).f0)) := (blk_cell BK112.out 0).trans rfl; have hcz14_1 : w13.cell? ⟨gb112, 1, none⟩ = some (.int .i64 ((rd_T31 l0 x21_1).f1)) := (blk_cell BK112.out 1).trans rfl; have hcz14_2 : w13.cell? ⟨gb112, 2, none⟩ = some (.int .i64 ((rd_T31 l0 x21_1).f2)) := (blk_cell BK112.out 2).trans rfl; have hfz14_0 := blk_frozen BK112.out 0; have hfz14_1 := blk_frozen BK112.out 1; have hfz14_2 := blk_frozen BK112.out 2))
           go_roundg k2
           case measure => have := HK1.out; have := HK2.out; omega
           case rel => exact ⟨(x9_2), (wrap64 (x9_2 + ((rd_T31 l0 x21_1).f2))), (by (rfl)), (by (rfl)), H', ⟨by have := HK1.out; have := HK2.out; omega⟩, ⟨BK112.out⟩, ⟨HB.out⟩⟩
          ·rw [if_neg c12] at H
           have c12b0 : decide (x9_2 < t113) = false := decide_eq_false c12
           clear c12
           have H' := Aside0.mk H
           clear H
           go_wp2_with (((with_reducible refine gate_callee (f := 32) rfl ?_); refine goesL_ (some 36) rfl rfl Tryz.func32 (by kernel_rfl) rfl #[.slice (some ad111) l0.length c0, .int .i64 x9_2] rfl (by (try simp only [List.map_toArray, List.map_cons, List.map_nil]); (rfl)) ?_; (with_reducible refine (demand_Bound.calls _ _ l0 x9_2 t113 _ ?side1 ?side2 A11.out).mono ?_); (case side1 => repeat ((exact (Kd.C_below HR0.out HB.out)))); (case side2 => exact HC0.out); rintro e w15 ⟨rfl, hb⟩; refine ⟨_, rfl, ?_⟩; replace BK112 := Aside0.mk (blk_below BK112.out hb); replace HB := Aside0.mk (below_step HB.out hb); (try clear hb); (try clear hb2); (try clear hk); (try clear hi); have hcz16_0 : w15.cell? ⟨gb112, 0, none⟩ = some (.int .i64 ((rd_T31 l0 x21_1).f0)) := (blk_cell BK112.out 0).trans rfl; have hcz16_1 : w15.cell? ⟨gb112, 1, none⟩ = some (.int .i64 ((rd_T31 l0 x21_1).f1)) := (blk_cell BK112.out 1).trans rfl; have hcz16_2 : w15.cell? ⟨gb112, 2, none⟩ = some (.int .i64 ((rd_T31 l0 x21_1).f2)) := (blk_cell BK112.out 2).trans rfl; have hfz16_0 := blk_frozen BK112.out 0; have hfz16_1 := blk_frozen BK112.out 1; have hfz16_2 := blk_frozen BK112.out 2))
           go_roundg k2
           case measure => have := HK1.out; have := HK2.out; omega
           case rel => exact ⟨(x6_2), (wrap64 (x9_2 + ((rd_T31 l0 x21_1).f2))), (by (rfl)), (by (rfl)), H', ⟨by have := HK1.out; have := HK2.out; omega⟩, ⟨BK112.out⟩, ⟨HB.out⟩⟩
         ·rw [if_neg c10] at H
          have c10b0 : decide (x9_2 < x6_2) = false := decide_eq_false c10
          clear c10
          have H' := Aside0.mk H
          clear H
          go_wp2
          go_roundg k2
          case measure => have := HK1.out; have := HK2.out; omega
          case rel => exact ⟨(x6_2), (wrap64 (x21_1 + 1)), (by (rfl)), (by (rfl)), H', ⟨by have := HK1.out; have := HK2.out; omega⟩, ⟨HB.out⟩⟩
      ·rw [if_neg c7] at H
       exact absurd H (by simp)
     ·rw [if_neg c6] at H
      exact absurd H (by simp)
    ·rw [if_neg c5] at H
     have c5b0 : decide (x21_1 < (l0.length : Int)) = false := decide_eq_false c5
     clear c5
     by_cases c17 : x6_1 > t109
     ·rw [if_pos c17] at H
      have c17b0 : decide (t109 < x6_1) = true := decide_eq_true c17
      clear c17
      simp only [Option.some.injEq, Prod.mk.injEq] at H
      obtain ⟨rfl, rfl⟩ := H
      go_wp2
      go_ret2
      exact ⟨by (rfl), by repeat ((with_reducible (exact HB.out)))⟩
     ·rw [if_neg c17] at H
      have c17b0 : decide (t109 < x6_1) = false := decide_eq_false c17
      clear c17
      simp only [Option.some.injEq, Prod.mk.injEq] at H
      obtain ⟨rfl, rfl⟩ := H
      go_wp2
      go_ret2
      exact ⟨by (rfl), by repeat ((with_reducible (exact HB.out)))⟩
 ·replace c3 := Bool.eq_false_iff.mpr c3
  subst c3
  have H1 : (some (0, false)) = some (r1, r2) := by rw [if_neg (show ¬ (false = true) by decide)] at H; exact H
  clear H
  have H := H1
  clear H1
  simp only [Option.some.injEq, Prod.mk.injEq] at H
  obtain ⟨rfl, rfl⟩ := H
  go_enter Tryz.func30, Tryz.ntmps30
  go_wp2_with (((with_reducible refine gate_callee (f := 25) rfl ?_); refine goesL_ (some 12) rfl rfl Tryz.func25 (by kernel_rfl) rfl #[.slice A0 l0.length c0] rfl (by (try simp only [List.map_toArray, List.map_cons, List.map_nil]); (rfl)) ?_; (with_reducible refine (busy_Time.calls k _ _ l0 t109 false _ ?side1 ?side2 A2.out).mono ?_); (case side1 => repeat ((exact HR0.out))); (case side2 => exact HC0.out); rintro e w18 ⟨rfl, hb⟩; refine ⟨_, rfl, ?_⟩; replace HB := Aside0.mk (below_step HB.out hb); (try clear hb); (try clear hb2); (try clear hk); (try clear hi)))
  go_ret2
  exact ⟨by (rfl), by repeat ((with_reducible (exact HB.out)))⟩

/-! ### demand_Fits: function 34 -/
def demand_Fits.f (k : Nat) (l0 : List (S31)) : Option (Bool) := (busy_Time.f k l0).bind fun bt114 => ((demand_First.f k l0).bind fun bt116 => (if bt114.2 = true then (some (!bt116.2)) else (some false)))
theorem demand_Fits.mono : ∀ a0 k, LeO (demand_Fits.f k a0) (demand_Fits.f (k + 1) a0) := by
 intro a0 k
 unfold demand_Fits.f
 repeat' first
   | (with_reducible exact busy_Time.mono _ _)
   | (with_reducible exact demand_First.mono _ _)
   | (with_reducible exact LeO.refl _)
   | (with_reducible exact LeO.none _)
   | (with_reducible refine LeO.ite ?_ ?_)
   | (with_reducible refine LeO.bind ?_ (fun _ => ?_))
   | exact busy_Time.mono _ _
   | exact demand_First.mono _ _
   | exact LeO.none _
   | refine LeO.ite ?_ ?_
   | refine LeO.bind ?_ (fun _ => ?_)
set_option maxHeartbeats 8000000 in
set_option maxRecDepth 100000 in
theorem demand_Fits.calls (k : Nat) (A0 : Option Addr) (c0 : Nat) (l0 : List (S31)) (r : Bool) (w : World) (hr0 : Kd.C k31 w A0 l0.length l0) (hc0 : l0.length ≤ c0) (h : demand_Fits.f k l0 = some r) :
  Calls Tryz.prog 34 #[.slice A0 l0.length c0] w fun e w' => e = .returned (.bool r) ∧ Below w.heap.size w w' := by
 have HR0 := Aside0.mk hr0
 have HC0 := Aside0.mk hc0
 clear hr0 hc0
 have HB := Aside0.mk (Below.refl w.heap.size w)
 have H : ((busy_Time.f k l0).bind fun bt114 => ((demand_First.f k l0).bind fun bt116 => (if bt114.2 = true then (some (!bt116.2)) else (some false)))) = some r := h
 clear h
 replace H := Option.bind_eq_some_iff.mp H
 obtain ⟨⟨t114, t115⟩, A20, H⟩ := H
 have A2 := Aside0.mk A20
 clear A20
 replace H := Option.bind_eq_some_iff.mp H
 obtain ⟨⟨t116, t117⟩, A30, H⟩ := H
 have A3 := Aside0.mk A30
 clear A30
 by_cases c4 : t115 = true
 ·subst c4
  have H1 : (some (!t117)) = some r := by rw [if_pos rfl] at H; exact H
  clear H
  have H := H1
  clear H1
  obtain rfl := Option.some.inj H
  go_enter Tryz.func34, Tryz.ntmps34
  go_wp2_with (first | ((with_reducible refine gate_callee (f := 25) rfl ?_); refine goesL_ (some 9) rfl rfl Tryz.func25 (by kernel_rfl) rfl #[.slice A0 l0.length c0] rfl (by (try simp only [List.map_toArray, List.map_cons, List.map_nil]); (rfl)) ?_; (with_reducible refine (busy_Time.calls k _ _ l0 t114 true _ ?side1 ?side2 A2.out).mono ?_); (case side1 => repeat ((exact HR0.out))); (case side2 => exact HC0.out); rintro e w5 ⟨rfl, hb⟩; refine ⟨_, rfl, ?_⟩; replace HB := Aside0.mk (below_step HB.out hb); (try clear hb); (try clear hb2); (try clear hk); (try clear hi)) | ((with_reducible refine gate_callee (f := 30) rfl ?_); refine goesL_ (some 14) rfl rfl Tryz.func30 (by kernel_rfl) rfl #[.slice A0 l0.length c0] rfl (by (try simp only [List.map_toArray, List.map_cons, List.map_nil]); (rfl)) ?_; (with_reducible refine (demand_First.calls k _ _ l0 t116 t117 _ ?side1 ?side2 A3.out).mono ?_); (case side1 => repeat ((exact (Kd.C_below HR0.out HB.out)))); (case side2 => exact HC0.out); rintro e w6 ⟨rfl, hb⟩; refine ⟨_, rfl, ?_⟩; replace HB := Aside0.mk (below_step HB.out hb); (try clear hb); (try clear hb2); (try clear hk); (try clear hi)))
  go_ret
  exact ⟨by (rfl), by repeat ((with_reducible (exact HB.out)))⟩
 ·replace c4 := Bool.eq_false_iff.mpr c4
  subst c4
  have H1 : (some false) = some r := by rw [if_neg (show ¬ (false = true) by decide)] at H; exact H
  clear H
  have H := H1
  clear H1
  obtain rfl := Option.some.inj H
  go_enter Tryz.func34, Tryz.ntmps34
  go_wp2_with (first | ((with_reducible refine gate_callee (f := 25) rfl ?_); refine goesL_ (some 9) rfl rfl Tryz.func25 (by kernel_rfl) rfl #[.slice A0 l0.length c0] rfl (by (try simp only [List.map_toArray, List.map_cons, List.map_nil]); (rfl)) ?_; (with_reducible refine (busy_Time.calls k _ _ l0 t114 false _ ?side1 ?side2 A2.out).mono ?_); (case side1 => repeat ((exact HR0.out))); (case side2 => exact HC0.out); rintro e w7 ⟨rfl, hb⟩; refine ⟨_, rfl, ?_⟩; replace HB := Aside0.mk (below_step HB.out hb); (try clear hb); (try clear hb2); (try clear hk); (try clear hi)) | ((with_reducible refine gate_callee (f := 30) rfl ?_); refine goesL_ (some 14) rfl rfl Tryz.func30 (by kernel_rfl) rfl #[.slice A0 l0.length c0] rfl (by (try simp only [List.map_toArray, List.map_cons, List.map_nil]); (rfl)) ?_; (with_reducible refine (demand_First.calls k _ _ l0 t116 t117 _ ?side1 ?side2 A3.out).mono ?_); (case side1 => repeat ((exact (Kd.C_below HR0.out HB.out)))); (case side2 => exact HC0.out); rintro e w8 ⟨rfl, hb⟩; refine ⟨_, rfl, ?_⟩; replace HB := Aside0.mk (below_step HB.out hb); (try clear hb); (try clear hb2); (try clear hk); (try clear hi)))
  go_ret
  exact ⟨by (rfl), by repeat ((with_reducible (exact HB.out)))⟩

/-! ### most_may: function 49 -/
def most_may.f (k : Nat) (l0 : List (S31)) (a1 : Int) (a2 : Int) : Option (Bool) := if (l0.length : Int) ≤ 23 then (if a1 ≥ 1 then (if a1 ≤ a2 then (if a2 ≤ 200 then ((demand_Fits.f k l0).bind fun t118 => (some t118)) else (some false)) else (some false)) else (some false)) else (some false)
theorem most_may.mono : ∀ a0 a1 a2 k, LeO (most_may.f k a0 a1 a2) (most_may.f (k + 1) a0 a1 a2) := by
 intro a0 a1 a2 k
 unfold most_may.f
 repeat' first
   | (with_reducible exact demand_Fits.mono _ _)
   | (with_reducible exact LeO.refl _)
   | (with_reducible exact LeO.none _)
   | (with_reducible refine LeO.ite ?_ ?_)
   | (with_reducible refine LeO.bind ?_ (fun _ => ?_))
   | exact demand_Fits.mono _ _
   | exact LeO.none _
   | refine LeO.ite ?_ ?_
   | refine LeO.bind ?_ (fun _ => ?_)
set_option maxHeartbeats 8000000 in
set_option maxRecDepth 100000 in
theorem most_may.calls (k : Nat) (A0 : Option Addr) (c0 : Nat) (l0 : List (S31)) (a1 : Int) (a2 : Int) (r : Bool) (w : World) (hr0 : Kd.C k31 w A0 l0.length l0) (hc0 : l0.length ≤ c0) (h : most_may.f k l0 a1 a2 = some r) :
  Calls Tryz.prog 49 #[.slice A0 l0.length c0, .int .i64 a1, .int .i64 a2] w fun e w' => e = .returned (.bool r) ∧ Below w.heap.size w w' := by
 have HR0 := Aside0.mk hr0
 have HC0 := Aside0.mk hc0
 clear hr0 hc0
 have HB := Aside0.mk (Below.refl w.heap.size w)
 have H : (if (l0.length : Int) ≤ 23 then (if a1 ≥ 1 then (if a1 ≤ a2 then (if a2 ≤ 200 then ((demand_Fits.f k l0).bind fun t118 => (some t118)) else (some false)) else (some false)) else (some false)) else (some false)) = some r := h
 clear h
 by_cases c4 : (l0.length : Int) ≤ 23
 ·rw [if_pos c4] at H
  have c4b0 : decide ((l0.length : Int) ≤ 23) = true := decide_eq_true c4
  have c4b1 : decide (l0.length ≤ 23) = true := decide_eq_true (by omega)
  clear c4
  by_cases c5 : a1 ≥ 1
  ·rw [if_pos c5] at H
   have c5b0 : decide (1 ≤ a1) = true := decide_eq_true c5
   clear c5
   by_cases c6 : a1 ≤ a2
   ·rw [if_pos c6] at H
    have c6b0 : decide (a1 ≤ a2) = true := decide_eq_true c6
    clear c6
    by_cases c7 : a2 ≤ 200
    ·rw [if_pos c7] at H
     have c7b0 : decide (a2 ≤ 200) = true := decide_eq_true c7
     clear c7
     replace H := Option.bind_eq_some_iff.mp H
     obtain ⟨t118, A80, H⟩ := H
     have A8 := Aside0.mk A80
     clear A80
     obtain rfl := Option.some.inj H
     go_enter Tryz.func49, Tryz.ntmps49
     go_wp2_with ((go_at_call 34; (with_reducible refine (demand_Fits.calls k _ _ l0 t118 _ ?side1 ?side2 A8.out).mono ?_); (case side1 => repeat ((exact HR0.out))); (case side2 => exact HC0.out); rintro e w9 ⟨rfl, hb⟩; replace HB := Aside0.mk (below_step HB.out hb); (try clear hb); (try clear hb2); (try clear hk); (try clear hi)))
     go_ret
     exact ⟨by (rfl), by repeat ((with_reducible (exact HB.out)))⟩
    ·rw [if_neg c7] at H
     have c7b0 : decide (a2 ≤ 200) = false := decide_eq_false c7
     clear c7
     obtain rfl := Option.some.inj H
     go_enter Tryz.func49, Tryz.ntmps49
     go_wp2
     go_ret
     exact ⟨by (rfl), by repeat ((with_reducible (exact HB.out)))⟩
   ·rw [if_neg c6] at H
    have c6b0 : decide (a1 ≤ a2) = false := decide_eq_false c6
    clear c6
    obtain rfl := Option.some.inj H
    go_enter Tryz.func49, Tryz.ntmps49
    go_wp2
    go_ret
    exact ⟨by (rfl), by repeat ((with_reducible (exact HB.out)))⟩
  ·rw [if_neg c5] at H
   have c5b0 : decide (1 ≤ a1) = false := decide_eq_false c5
   clear c5
   obtain rfl := Option.some.inj H
   go_enter Tryz.func49, Tryz.ntmps49
   go_wp2
   go_ret
   exact ⟨by (rfl), by repeat ((with_reducible (exact HB.out)))⟩
 ·rw [if_neg c4] at H
  have c4b0 : decide ((l0.length : Int) ≤ 23) = false := decide_eq_false c4
  have c4b1 : decide (l0.length ≤ 23) = false := decide_eq_false (by omega)
  clear c4
  obtain rfl := Option.some.inj H
  go_enter Tryz.func49, Tryz.ntmps49
  go_wp2
  go_ret
  exact ⟨by (rfl), by repeat ((with_reducible (exact HB.out)))⟩

/-! ### api_Load: function 58 -/
theorem infoL31 : (Tryz.prog.info? 31).map (fun i => (i.zero, i.size, i.bytes)) = some (some (.agg #[.int .i64 0, .int .i64 0, .int .i64 0]), 3, 24) := by kernel_rfl
theorem k31_KM (w W : World) (base : Nat) (ok : Nat → Prop) (x : S31) (cs : List Value) (h : k31.K w x cs) : k31.M W base ok x cs := h
set_option maxHeartbeats 4000000 in
theorem clone_zero (ad : Addr) (c : Nat) (w : World) : Calls Tryz.prog 58 #[.slice (some ad) 0 c] w fun e w' => ∃ v : Value, e = .returned v ∧ Kd.R k31 31 w' w.heap.size (fun _ => True) v [] ∧ Below w.heap.size w w' := by
 have q22 : ∀ (w : World) (a : Option Addr) (n c n' c' : Nat), (binOp .eql 22 (.slice a n c) (.slice none n' c')).run Tryz.prog w = .ok (.bool a.isNone) w := fun w a n c n' c' => Lib.run_eql_slice_nil w _ _ a n c n' c' Tryz.underlying22
 go_enter Tryz.func58, Tryz.ntmps58
 go_wp2
 go_ret
 have hA : (w.alloc (.cells #[] 31)).heap[w.heap.size]? = some (.cells #[] 31 (0, 0)) := by unfold World.alloc; simp
 exact ⟨_, rfl, ⟨fun _ _ => trivial, [], ⟨by simp, .inr ⟨_, 0, #[], rfl, Nat.le_refl _, hA, Nat.le_refl _, Nat.zero_le _, by simp, by simp⟩⟩, Reps.none _ _⟩, (Below.refl _ _).alloc (Nat.le_refl _) _⟩
theorem clone_calls (A : Option Addr) (c : Nat) (l : List S31) (w : World) (h : Kd.C k31 w A l.length l) (hl : l.length ≤ 23) :
  Calls Tryz.prog 58 #[.slice A l.length c] w fun e w' => ∃ v : Value, e = .returned v ∧ Kd.R k31 31 w' w.heap.size (fun _ => True) v l ∧ Below w.heap.size w w' := by
 by_cases h0 : l.length = 0
 ·obtain rfl : l = [] := List.length_eq_zero_iff.mp h0
  cases A with
  | none => exact (AnyE.slices_Clone_nil Tryz.cloneL 0 c w).mono fun e w' ⟨he, hw⟩ => ⟨_, he, hw ▸ Kd.R_nil _ _ _ _ _, hw ▸ Below.refl _ _⟩
  | some ad => exact clone_zero ad c w
 ·obtain ⟨b, o, rfl, hb, _⟩ := C_plain h (by omega)
  obtain ⟨inner, hr, hcell⟩ := ReadsRow.inner_ h
  obtain ⟨i0, hi, hzz⟩ := Option.map_eq_some_iff.1 infoL31
  simp only [Prod.mk.injEq] at hzz
  obtain ⟨hz0, hz1, hz2⟩ := hzz
  have hil : inner.length = l.length * 3 := hr.1
  have hone : ∀ u ∈ inner, u.oneCell' = true := by
   intro u hu
   obtain ⟨q, hq, rfl⟩ := List.getElem_of_mem hu
   have hj : q / 3 < l.length := by omega
   have h3 : k31.K w l[q / 3] ((inner.drop (q / 3 * 3)).take 3) := hr.2 (q / 3) l[q / 3] (List.getElem?_eq_getElem hj)
   refine k31.K_one h3 _ (List.mem_of_getElem? (i := q % 3) ?_)
   rw [List.getElem?_take_of_lt (by omega), List.getElem?_drop, show q / 3 * 3 + q % 3 = q by omega]
   exact List.getElem?_eq_getElem hq
  refine (AnyE.slices_Clone Tryz.cloneL i0 _ 3 24 hi hz0 hz1 hz2 rfl (by decide) Tryz.sizeOf31 b o l.length c inner w hil (by simp only [maxLen]; omega) (by omega) (fun j u hj => ?_) hone).mono ?_
  ·have := hcell j u hj
   unfold Addr.add at this
   split at this
   ·rename_i e0
    subst e0; simpa using this
   ·exact this
  ·rintro e w' ⟨v, he, hown, _, hbel⟩
   exact ⟨v, he, ⟨fun _ _ => trivial, inner, hown, hr.imp_ (fun p cs hp => k31_KM w w' _ _ p cs hp)⟩, hbel⟩

def api_Load.f (l0 : List (S31)) : Option (List (S31)) := if l0.length ≤ 23 then some l0 else none
theorem api_Load.calls (A0 : Option Addr) (c0 : Nat) (l0 : List (S31)) (r : List (S31)) (w : World) (hr0 : Kd.C k31 w A0 l0.length l0) (hc0 : l0.length ≤ c0) (h : api_Load.f l0 = some r) :
  Calls Tryz.prog 58 #[.slice A0 l0.length c0] w fun e w' => ∃ v0_ : Value, e = .returned (v0_) ∧ Kd.R k31 31 w' w.heap.size (fun _ => True) v0_ r ∧ Below w.heap.size w w' := by
 unfold api_Load.f at h
 split at h
 ·rename_i hl
  injection h with h
  subst h
  exact clone_calls A0 c0 l0 w hr0 hl
 ·cases h


end Go.Proofs.YtddepomgaeadpaaGreatDoor.PAll
