-- Written by a program of this session (wip/pp.py) over the kit's print, with hand-proved contracts beside it.
import Derived.Test.YtddepomgaeadpaaGreatDoorPBegx0
import Derived.Test.YtddepomgaeadpaaGreatDoorPBegx3
import Derived.Test.YtddepomgaeadpaaGreatDoorPBegx5
namespace Go.Proofs.YtddepomgaeadpaaGreatDoor.PBeg
open Go.Shelf Go.Lib Go.RowKit Go.Proofs.YtddepomgaeadpaaGreatDoorW.PrintWords Go.Proofs.YtddepomgaeadpaaGreatDoorW.PrintLast Go.Proofs.YtddepomgaeadpaaGreatDoorW.PrintMore
attribute [local go_sem] max2_int min2_int max_two min_two max_three min_three max_four min_four   -- for this text's walks alone
set_option linter.unusedVariables false
set_option linter.unusedSimpArgs false

/-! ### rule_Agents: function 68 -/

def agentsOf (lr : List Int) (ls : List S59) : List Int := Lib.compact ((ls.map fun s => lr.getD s.f0.toNat 0).mergeSort fun x y => decide (x ≤ y))
theorem compact_le (zs : List Int) : (Lib.compact zs).length ≤ zs.length := by
 unfold Lib.compact Lib.compactUpTo
 rw [List.length_map]
 exact Nat.le_trans (List.length_filter_le _ _) (by simp)
set_option maxHeartbeats 8000000 in
/-- sort, compact a row of the call's own -/
theorem sortc_calls (W0 W : World) (v : Value) (xs : List Int) (hB : Below W0.heap.size W0 W) (h : Kd.R (Kd.int .i64) 3 W W0.heap.size (fun _ => True) v xs) (hl : xs.length ≤ 140737488355328) :
  Calls Tryz.prog 79 #[v] W fun e w1 => e = .returned (.tuple #[]) ∧ Calls Tryz.prog 80 #[v] w1 fun e w2 => ∃ v2, e = .returned v2 ∧ Kd.R (Kd.int .i64) 3 w2 W0.heap.size (fun _ => True) v2 (Lib.compact (xs.mergeSort fun x y => decide (x ≤ y))) ∧ Below W0.heap.size W0 w2 := by
 obtain ⟨_, inner, ⟨hi1, hi2⟩, hrep⟩ := h
 obtain rfl : inner = xs.map (Value.int .i64) := by
  have hlen : inner.length = xs.length := by have := hrep.1; simpa [Kd.int, Kd.scalar] using this
  refine List.ext_getElem (by simpa using hlen) (fun j h1 h2 => ?_)
  have hj : j < xs.length := by simpa using h2
  have := hrep.2 j xs[j] (List.getElem?_eq_getElem hj)
  have e : (inner.drop (j * 1)).take 1 = [.int .i64 xs[j]] := this
  rw [Nat.mul_one, List.drop_eq_getElem_cons h1] at e
  rw [List.getElem_map]
  simpa only [List.take_succ_cons, List.take_zero, List.cons.injEq, and_true] using e
 rcases hi2 with ⟨rfl, h0⟩ | ⟨g, cap, cur, rfl, hg, hheap, hn, hcap, hsz, htake⟩
 ·have h0' : xs.length = 0 := h0
  obtain rfl : xs = [] := List.length_eq_zero_iff.mp h0'
  refine (AnyM.slices_Sort_int_none Tryz.sortI none 0 W).mono fun e w1 ⟨he, hw⟩ => ⟨he, ?_⟩
  subst hw
  refine (Any.slices_Compact_int_empty Tryz.compactI none 0 w1).mono fun e w2 ⟨he, hw⟩ => ?_
  subst hw
  have e0 : Lib.compact (([] : List Int).mergeSort fun x y => decide (x ≤ y)) = [] := by simp [Lib.compact, Lib.compactUpTo]
  rw [e0]
  exact ⟨_, he, Kd.R_nil _ _ _ _ _, hB⟩
 ·have hn : xs.length ≤ cap := hn
  have hsz : cur.size = cap := by simpa [Kd.int, Kd.scalar] using hsz
  have htake : cur.toList.take xs.length = xs.map (Value.int .i64) := by
   have := htake
   simp only [Kd.int, Kd.scalar, Nat.mul_one] at this
   exact this
  have hgl : g < W.heap.size := (Array.getElem?_eq_some_iff.1 hheap).1
  refine (AnyM.slices_Sort_int Tryz.sortI g 0 cap xs W (holds_of_blockI hheap htake) hgl (by omega)).mono ?_
  rintro e w1 ⟨he, n, os, hw1⟩
  refine ⟨he, ?_⟩
  obtain ⟨S, hS⟩ : ∃ S, (xs.mergeSort fun x y => decide (x ≤ y)) = S := ⟨_, rfl⟩
  rw [hS] at hw1 ⊢
  have hSl : S.length = xs.length := by rw [← hS]; exact List.length_mergeSort xs
  have hh1 := heap_sortedI (n := n) (os := os) S.toArray hheap
  rw [← hw1] at hh1
  have hg1 := grownBy_sortedI (w := W) (g := g) (n := n) (os := os) S.toArray
  rw [← hw1] at hg1
  have ht1 := take_putCellsI cur S (by omega)
  have hs1 : (Sort.putCells (Value.int .i64) 0 S.toArray cur).size = cap := by simp [Sort.putCells, hsz]
  generalize Sort.putCells (Value.int .i64) 0 S.toArray cur = cur1 at hh1 ht1 hs1
  rw [← hSl]
  refine (Any.slices_Compact_int Tryz.compactI g 0 cap S w1 (holds_of_blockI hh1 ht1) (by omega) (by omega)).mono ?_
  rintro e w2 ⟨he2, q, hw2⟩
  have hcl := compact_le S
  obtain ⟨ts, hts⟩ : ∃ ts, Lib.compact S ++ List.replicate (S.length - (Lib.compact S).length) 0 = ts := ⟨_, rfl⟩
  have htl : ts.length = S.length := by rw [← hts, List.length_append, List.length_replicate]; omega
  rw [hts] at hw2
  have hh2 := heap_sortedI (n := q) (os := #[]) ts.toArray hh1
  have hg2 := grownBy_sortedI (w := w1) (g := g) (n := q) (os := #[]) ts.toArray
  rw [Sort.grow_empty, ← hw2] at hh2 hg2
  have ht2 := take_putCellsI cur1 ts (by omega)
  have hs2 : (Sort.putCells (Value.int .i64) 0 ts.toArray cur1).size = cap := by simp [Sort.putCells, hs1]
  generalize Sort.putCells (Value.int .i64) 0 ts.toArray cur1 = cur2 at hh2 ht2 hs2
  have hb1 := hB.grown hg1 hB.size (fun k hk => by injection hk with hk; omega)
  refine ⟨_, he2, ⟨fun _ _ => trivial, (Lib.compact S).map (Value.int .i64), ⟨by simp [Kd.int, Kd.scalar], .inr ⟨g, cap, cur2, rfl, hg, hh2, by omega, hcap, by simpa [Kd.int, Kd.scalar] using hs2, ?_⟩⟩, Kd.reps_scalar (enc := Value.int .i64) _⟩, hb1.grown hg2 hb1.size (fun k hk => by injection hk with hk; omega)⟩
  show cur2.toList.take ((Lib.compact S).length * 1) = _
  have := congrArg (List.take (Lib.compact S).length) ht2
  rw [List.take_take, Nat.min_eq_left (by omega), ← hts, List.map_append, List.take_append_of_le_length (by simp)] at this
  rw [Nat.mul_one, this]
  exact List.take_of_length_le (by simp)
set_option maxHeartbeats 8000000 in
set_option maxRecDepth 100000 in
theorem agents_true (a b c d : Int) (A : Option Addr) (cp : Nat) (lr : List Int) (x y z : Int) (B : Option Addr) (cq : Nat) (ls : List S59) (w : World) (hr : Kd.C (Kd.int .i64) w A lr.length lr) (hcr : lr.length ≤ cp) (hs : Kd.C k59 w B ls.length ls) (hcs : ls.length ≤ cq) (k : Nat)
  (hc : configOk a b c d lr = true) (ht : rule_Task.f k a b c d lr x y z ls = some true) (hin : ∀ s ∈ ls, 0 ≤ s.f0 ∧ s.f0 < lr.length) (hl : ls.length ≤ 1000) :
  Calls Tryz.prog 68 #[.agg #[.int .i64 a, .int .i64 b, .int .i64 c, .int .i64 d, .slice A lr.length cp], .agg #[.int .i64 x, .int .i64 y, .int .i64 z, .slice B ls.length cq]] w fun e w' => ∃ v0_ : Value, e = .returned (v0_) ∧ Kd.R (Kd.int .i64) 3 w' w.heap.size (fun _ => True) v0_ (agentsOf lr ls) ∧ Below w.heap.size w w' := by
 obtain ⟨W0, hW0⟩ : ∃ W0, W0 = (w.alloc (.cells #[.int .i64 a, .int .i64 b, .int .i64 c, .int .i64 d, .slice A lr.length cp] 57)).alloc (.cells #[.int .i64 x, .int .i64 y, .int .i64 z, .slice B ls.length cq] 62) := ⟨_, rfl⟩
 have hbW : Below w.heap.size w W0 := by subst hW0; exact ((Below.refl _ _).alloc (Nat.le_refl _) _).alloc (by simp) _
 have hsz : w.heap.size + 2 = W0.heap.size := by subst hW0; simp
 have kc : ∀ W, Below W0.heap.size W0 W → ∀ i v, (#[.int .i64 a, .int .i64 b, .int .i64 c, .int .i64 d, .slice A lr.length cp] : Array Value)[i]? = some v → W.cell? ⟨w.heap.size, i, none⟩ = some v := by
  intro W hW i v hv
  rw [hW.cell (p := ⟨w.heap.size, i, none⟩) (show w.heap.size < W0.heap.size by omega)]
  subst hW0
  rw [World.cell?_alloc_old _ _ _ (by simp)]
  simp [hv]
 have kt : ∀ W, Below W0.heap.size W0 W → ∀ i v, (#[.int .i64 x, .int .i64 y, .int .i64 z, .slice B ls.length cq] : Array Value)[i]? = some v → W.cell? ⟨w.heap.size + 1, i, none⟩ = some v := by
  intro W hW i v hv
  rw [hW.cell (p := ⟨w.heap.size + 1, i, none⟩) (show w.heap.size + 1 < W0.heap.size by omega)]
  subst hW0
  have e : w.heap.size + 1 = (w.alloc (.cells #[.int .i64 a, .int .i64 b, .int .i64 c, .int .i64 d, .slice A lr.length cp] 57)).heap.size := by simp
  rw [e]
  simp [hv]
 have KC := Aside0.mk kc
 have KT := Aside0.mk kt
 have HR := Aside0.mk (fun (W : World) (h : Below W0.heap.size W0 W) => Kd.C_below (Kd.C_below hr hbW) h)
 have HS := Aside0.mk (fun (W : World) (h : Below W0.heap.size W0 W) => Kd.C_below (Kd.C_below hs hbW) h)
 have HBW := Aside0.mk hbW
 have HSZ := Aside0.mk hsz
 have HIN := Aside0.mk hin
 have HL := Aside0.mk hl
 have hcfg := fun W (h : Below W0.heap.size W0 W) => config_calls a b c d A cp lr W (HR.out W h)
 rw [hc] at hcfg
 have htask := fun W (h : Below W0.heap.size W0 W) => rule_Task.calls k a b c d A cp lr x y z B cq ls true W (HR.out W h) hcr (HS.out W h) hcs ht
 have HCFG := Aside0.mk hcfg
 have HTASK := Aside0.mk htask
 have c0 := kc W0 (Below.refl _ _)
 have c00 := c0 0 _ rfl
 have c01 := c0 1 _ rfl
 have c02 := c0 2 _ rfl
 have c03 := c0 3 _ rfl
 have c04 := c0 4 _ rfl
 clear kc kt hr hs hbW hsz hin hl hcfg htask hc ht c0 hcr hcs
 go_enter Tryz.func68, Tryz.ntmps68
 go_upto_region 1 with fail
 rw [← hW0]
 clear hW0
 go_wp2_with (first
  | (go_at_call 64; refine (HCFG.out W0 (Below.refl _ _)).mono ?_; rintro e w1 ⟨rfl, hb1⟩; have HB1 := Aside0.mk hb1; have d := KC.out w1 hb1; have d0 := d 0 _ rfl; have d1 := d 1 _ rfl; have d2 := d 2 _ rfl; have d3 := d 3 _ rfl; have d4 := d 4 _ rfl; have t := KT.out w1 hb1; have t0 := t 0 _ rfl; have t1 := t 1 _ rfl; have t2 := t 2 _ rfl; have t3 := t 3 _ rfl; clear d t hb1 c00 c01 c02 c03 c04)
  | (go_at_call 65; refine (HTASK.out w1 HB1.out).mono ?_; rintro e w2 ⟨rfl, hb2⟩; have HB2 := Aside0.mk (HB1.out.trans (hb2.mono HB1.out.size)); have e3 := KT.out w2 HB2.out 3 _ rfl; clear hb2 HB1 d0 d1 d2 d3 d4 t0 t1 t2 t3))
 clear e3
 go_loopw [5, 20] (fun v i wr => ∃ j : Nat, i = .int .i64 (j : Int) ∧ j ≤ ls.length ∧ Aside0 (Kd.R (Kd.int .i64) 3 wr W0.heap.size (fun _ => True) v ((ls.take j).map fun s => lr.getD s.f0.toNat 0)) ∧ Aside0 (Below W0.heap.size W0 wr)) (fun _ i _ => ls.length - (Go.RowKit.intOf i).toNat)
 case atStart => exact ⟨0, rfl, Nat.zero_le _, ⟨Kd.R_nil _ _ _ _ _⟩, HB2⟩
 case round =>
  clear HB2
  obtain ⟨j, rfl, hj, HO, HB⟩ := hrel
  by_cases hlt : (j : Int) < (ls.length : Int)
  ·have hj' : j < ls.length := by omega
   have hd4 := KC.out wr HB.out 4 _ rfl
   obtain ⟨ad, e1, hx0, hx1, hx2⟩ := at_T59 (HS.out wr HB.out) (j : Int) (by omega) hlt
   subst e1
   simp only [Int.toNat_natCast] at hx0 hx1 hx2
   have hmem : rd_T59 ls (j : Int) ∈ ls := by simp only [rd_T59, Int.toNat_natCast, List.getD_eq_getElem?_getD, List.getElem?_eq_getElem hj', Option.getD_some]; exact List.getElem_mem _
   obtain ⟨hp1, hp2⟩ := HIN.out _ hmem
   have hnext : (ls.take (j + 1)).map (fun s => lr.getD s.f0.toNat 0) = (ls.take j).map (fun s => lr.getD s.f0.toNat 0) ++ [lr.getD (rd_T59 ls (j : Int)).f0.toNat 0] := by
    rw [List.take_succ_eq_append_getElem hj', List.map_append]
    simp [rd_T59, List.getD_eq_getElem?_getD, List.getElem?_eq_getElem hj']
   have HN := Aside0.mk hnext
   clear hnext hmem
   generalize rd_T59 ls (j : Int) = s at *
   obtain ⟨ad2, c2, e2, _, hK, hcell⟩ := Kd.C_get (HR.out wr HB.out) 0 s.f0 hp1 hp2
   subst e2
   have hK : c2 = [.int .i64 (lr.getD s.f0.toNat 0)] := hK
   subst hK
   have hy := hcell 0 _ rfl
   have hy : wr.cell? (ad2.add s.f0.toNat) = some (.int .i64 (lr.getD s.f0.toNat 0)) := by simpa [Kd.int, Kd.scalar] using hy
   generalize lr.getD s.f0.toNat 0 = p at *
   clear hcell
   have hn0 : 0 < wr.heap.size := by have := HB.out.size; have := HSZ.out; omega
   have hyb := World.block_lt_of_cell? wr _ hy
   obtain ⟨W1, hW1⟩ : ∃ W1, W1 = wr.alloc (.cells #[.int .i64 s.f0, .int .i64 s.f1, .int .i64 s.f2] 59) := ⟨_, rfl⟩
   have hb1 : Below wr.heap.size wr W1 := by rw [hW1]; exact (Below.refl _ _).alloc (Nat.le_refl _) _
   have hz : W1.cell? (ad2.add s.f0.toNat) = some (.int .i64 p) := (hb1.cell hyb).trans hy
   have hz4 : W1.cell? ⟨w.heap.size, 4, none⟩ = some (.slice (some ad2) lr.length cp) := (hb1.cell (World.block_lt_of_cell? wr _ hd4)).trans hd4
   have hz0 : W1.cell? ⟨wr.heap.size, 0, none⟩ = some (.int .i64 s.f0) := by rw [hW1]; simp
   have HO1 := Aside0.mk (Kd.R_below HO.out hb1)
   have HB1 := Aside0.mk (HB.out.trans (hb1.mono HB.out.size))
   obtain ⟨xs, hxs⟩ : ∃ xs, (ls.take j).map (fun s => lr.getD s.f0.toNat 0) = xs := ⟨_, rfl⟩
   have hxl : xs.length ≤ 1000 := by have := HL.out; rw [← hxs, List.length_map, List.length_take]; omega
   rw [hxs] at HO1 HN
   have HXL := Aside0.mk hxl
   clear hxs hxl hy hyb hn0 hb1 HO HB hd4
   have hjb : j < 1000 := by have := HL.out; omega
   go_upto_region 7 with fail
   rw [← hW1]
   clear hW1 hx0 hx1 hx2
   generalize wr.heap.size = gs at *
   go_wp2_with (((with_reducible refine gate_builtin (b := .append) (xs := #[.tmp 24, .tmp 31]) rfl ?_); at_builtin; refine Kd.R_append (P := Tryz.prog) (Kd.int .i64) (w0 := W0) W0.heap.size rfl (.tmp 24) (.tmp 31) 34 3 (.int .i64 0) 8 rfl Tryz.underlying34 info3 rfl (by decide) (by omega) u5 xs p [.int .i64 p] (fun _ => True) (fun _ => False) rfl rfl rfl (fun _ h => h.elim) (fun _ _ => trivial) HO1.out HB1.out HB1.out.size (by have := HXL.out; omega) ?_; intro v1 w1 h1 h2 h3 h4; have H1 := Aside0.mk h1; have H2 := Aside0.mk h2; clear h1 h2 h3 h4))
   go_roundw
   case rel => exact ⟨j + 1, by go_num, by omega, ⟨by rw [HN.out]; exact H1.out⟩, H2⟩
   case measure => simp [Go.RowKit.intOf]; omega
  ·have hje : j = ls.length := by omega
   subst hje
   rw [List.take_length] at HO
   have hsc := sortc_calls W0 wr u5 _ HB.out HO.out (by have := HL.out; rw [List.length_map]; omega)
   go_wp2_with (first | (go_at_call 79; refine hsc.mono ?_; rintro e w3 ⟨rfl, hsc2⟩) | (go_at_call 80; refine hsc2.mono ?_; rintro e w4 ⟨v2, rfl, hv2, hb4⟩))
   go_ret
   have hlow : w.heap.size ≤ W0.heap.size := by have := HSZ.out; omega
   exact ⟨v2, rfl, Kd.R_lower hv2 hlow, HBW.out.trans (hb4.mono hlow)⟩
def rule_Agents.f (k : Nat) (a0_0 : Int) (a0_1 : Int) (a0_2 : Int) (a0_3 : Int) (l0_4 : List Int) (a1_0 : Int) (a1_1 : Int) (a1_2 : Int) (l1_3 : List (S59)) : Option (List Int) := if configOk a0_0 a0_1 a0_2 a0_3 l0_4 = true then ((rule_Task.f k a0_0 a0_1 a0_2 a0_3 l0_4 a1_0 a1_1 a1_2 l1_3).bind fun t => if t = true then (if l1_3.all (fun s => decide (0 ≤ s.f0) && decide (s.f0 < (l0_4.length : Int))) = true then (if l1_3.length ≤ 1000 then some (agentsOf l0_4 l1_3) else none) else none) else some []) else some []
set_option maxHeartbeats 8000000 in
set_option maxRecDepth 100000 in
theorem agents_none (a b c d : Int) (A : Option Addr) (cp : Nat) (lr : List Int) (x y z : Int) (B : Option Addr) (cq : Nat) (ls : List S59) (w : World) (hr : Kd.C (Kd.int .i64) w A lr.length lr) (hcr : lr.length ≤ cp) (hs : Kd.C k59 w B ls.length ls) (hcs : ls.length ≤ cq) (k : Nat)
  (hc : configOk a b c d lr = false ∨ configOk a b c d lr = true ∧ rule_Task.f k a b c d lr x y z ls = some false) :
  Calls Tryz.prog 68 #[.agg #[.int .i64 a, .int .i64 b, .int .i64 c, .int .i64 d, .slice A lr.length cp], .agg #[.int .i64 x, .int .i64 y, .int .i64 z, .slice B ls.length cq]] w fun e w' => ∃ v0_ : Value, e = .returned (v0_) ∧ Kd.R (Kd.int .i64) 3 w' w.heap.size (fun _ => True) v0_ [] ∧ Below w.heap.size w w' := by
 obtain ⟨W0, hW0⟩ : ∃ W0, W0 = (w.alloc (.cells #[.int .i64 a, .int .i64 b, .int .i64 c, .int .i64 d, .slice A lr.length cp] 57)).alloc (.cells #[.int .i64 x, .int .i64 y, .int .i64 z, .slice B ls.length cq] 62) := ⟨_, rfl⟩
 have hbW : Below w.heap.size w W0 := by subst hW0; exact ((Below.refl _ _).alloc (Nat.le_refl _) _).alloc (by simp) _
 have hsz : w.heap.size + 2 = W0.heap.size := by subst hW0; simp
 have kc : ∀ W, Below W0.heap.size W0 W → ∀ i v, (#[.int .i64 a, .int .i64 b, .int .i64 c, .int .i64 d, .slice A lr.length cp] : Array Value)[i]? = some v → W.cell? ⟨w.heap.size, i, none⟩ = some v := by
  intro W hW i v hv
  rw [hW.cell (p := ⟨w.heap.size, i, none⟩) (show w.heap.size < W0.heap.size by omega)]
  subst hW0
  rw [World.cell?_alloc_old _ _ _ (by simp)]
  simp [hv]
 have kt : ∀ W, Below W0.heap.size W0 W → ∀ i v, (#[.int .i64 x, .int .i64 y, .int .i64 z, .slice B ls.length cq] : Array Value)[i]? = some v → W.cell? ⟨w.heap.size + 1, i, none⟩ = some v := by
  intro W hW i v hv
  rw [hW.cell (p := ⟨w.heap.size + 1, i, none⟩) (show w.heap.size + 1 < W0.heap.size by omega)]
  subst hW0
  have e : w.heap.size + 1 = (w.alloc (.cells #[.int .i64 a, .int .i64 b, .int .i64 c, .int .i64 d, .slice A lr.length cp] 57)).heap.size := by simp
  rw [e]
  simp [hv]
 have hcfg := fun W (h : Below W0.heap.size W0 W) => config_calls a b c d A cp lr W (Kd.C_below (Kd.C_below hr hbW) h)
 have htask := fun W (h : Below W0.heap.size W0 W) => fun tk (ht : rule_Task.f k a b c d lr x y z ls = some tk) => rule_Task.calls k a b c d A cp lr x y z B cq ls tk W (Kd.C_below (Kd.C_below hr hbW) h) hcr (Kd.C_below (Kd.C_below hs hbW) h) hcs ht
 have KC := Aside0.mk kc
 have KT := Aside0.mk kt
 have HBW := Aside0.mk hbW
 have HSZ := Aside0.mk hsz
 have HTASK := Aside0.mk htask
 have c0 := kc W0 (Below.refl _ _)
 have c00 := c0 0 _ rfl
 have c01 := c0 1 _ rfl
 have c02 := c0 2 _ rfl
 have c03 := c0 3 _ rfl
 have c04 := c0 4 _ rfl
 have hlow : w.heap.size ≤ W0.heap.size := by omega
 have HLOW := Aside0.mk hlow
 clear kc kt hr hs hbW hsz htask c0 hcr hcs hlow
 rcases hc with hc | ⟨hc, ht⟩
 ·rw [hc] at hcfg
  have HCFG := Aside0.mk hcfg
  clear hcfg hc
  go_enter Tryz.func68, Tryz.ntmps68
  go_upto_region 1 with fail
  rw [← hW0]
  clear hW0
  go_wp2_with (go_at_call 64; refine (HCFG.out W0 (Below.refl _ _)).mono ?_; rintro e w1 ⟨rfl, hb1⟩; have HB1 := Aside0.mk hb1; clear hb1)
  go_ret
  exact ⟨_, rfl, Kd.R_nil _ _ _ _ _, HBW.out.trans (HB1.out.mono HLOW.out)⟩
 ·rw [hc] at hcfg
  have HCFG := Aside0.mk hcfg
  have HT := Aside0.mk ht
  clear hcfg hc ht
  go_enter Tryz.func68, Tryz.ntmps68
  go_upto_region 1 with fail
  rw [← hW0]
  clear hW0
  go_wp2_with (first
   | (go_at_call 64; refine (HCFG.out W0 (Below.refl _ _)).mono ?_; rintro e w1 ⟨rfl, hb1⟩; have HB1 := Aside0.mk hb1; have d := KC.out w1 hb1; have d0 := d 0 _ rfl; have d1 := d 1 _ rfl; have d2 := d 2 _ rfl; have d3 := d 3 _ rfl; have d4 := d 4 _ rfl; have t := KT.out w1 hb1; have t0 := t 0 _ rfl; have t1 := t 1 _ rfl; have t2 := t 2 _ rfl; have t3 := t 3 _ rfl; clear d t hb1 c00 c01 c02 c03 c04)
   | (go_at_call 65; refine (HTASK.out w1 HB1.out false HT.out).mono ?_; rintro e w2 ⟨rfl, hb2⟩; have HB2 := Aside0.mk (HB1.out.trans (hb2.mono HB1.out.size)); clear hb2 HB1 d0 d1 d2 d3 d4 t0 t1 t2 t3))
  go_ret
  exact ⟨_, rfl, Kd.R_nil _ _ _ _ _, HBW.out.trans (HB2.out.mono HLOW.out)⟩
theorem rule_Agents.calls (k : Nat) (a0_0 : Int) (a0_1 : Int) (a0_2 : Int) (a0_3 : Int) (A0_4 : Option Addr) (c0_4 : Nat) (l0_4 : List Int) (a1_0 : Int) (a1_1 : Int) (a1_2 : Int) (A1_3 : Option Addr) (c1_3 : Nat) (l1_3 : List (S59)) (r : List Int) (w : World) (hr0_4 : Kd.C (Kd.int .i64) w A0_4 l0_4.length l0_4) (hc0_4 : l0_4.length ≤ c0_4) (hr1_3 : Kd.C k59 w A1_3 l1_3.length l1_3) (hc1_3 : l1_3.length ≤ c1_3) (h : rule_Agents.f k a0_0 a0_1 a0_2 a0_3 l0_4 a1_0 a1_1 a1_2 l1_3 = some r) :
  Calls Tryz.prog 68 #[.agg #[.int .i64 a0_0, .int .i64 a0_1, .int .i64 a0_2, .int .i64 a0_3, .slice A0_4 l0_4.length c0_4], .agg #[.int .i64 a1_0, .int .i64 a1_1, .int .i64 a1_2, .slice A1_3 l1_3.length c1_3]] w fun e w' => ∃ v0_ : Value, e = .returned (v0_) ∧ Kd.R (Kd.int .i64) 3 w' w.heap.size (fun _ => True) v0_ r ∧ Below w.heap.size w w' := by
 unfold rule_Agents.f at h
 split at h
 ·rename_i h1
  obtain ⟨t, ht, h⟩ := Option.bind_eq_some_iff.mp h
  cases t with
  | true =>
   simp only [if_true] at h
   split at h
   ·rename_i h2
    split at h
    ·rename_i h3
     injection h with h
     subst h
     exact agents_true _ _ _ _ A0_4 c0_4 l0_4 _ _ _ A1_3 c1_3 l1_3 w hr0_4 hc0_4 hr1_3 hc1_3 k h1 ht (fun s hs => by have := List.all_eq_true.mp h2 s hs; simpa using this) h3
    ·cases h
   ·cases h
  | false =>
   rw [if_neg (by decide)] at h
   injection h with h
   subst h
   exact agents_none _ _ _ _ A0_4 c0_4 l0_4 _ _ _ A1_3 c1_3 l1_3 w hr0_4 hc0_4 hr1_3 hc1_3 k (.inr ⟨h1, ht⟩)
 ·rename_i h1
  injection h with h
  subst h
  exact agents_none _ _ _ _ A0_4 c0_4 l0_4 _ _ _ A1_3 c1_3 l1_3 w hr0_4 hc0_4 hr1_3 hc1_3 k (.inl (by simpa using h1))


end Go.Proofs.YtddepomgaeadpaaGreatDoor.PBeg
