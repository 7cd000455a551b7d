/- A heap of texts in memory: all its functions. -/
import Derived.Test.YtpmamgdblbplcaaProg
import Derived.Test.YtpmamgdblbplcaaHBase
import Derived.Test.YtpmamgdblbplcaaHInt
import Derived.StringKeys
import Derived.WalkKit
import Derived.WalkSpells
import Derived.KernelRfl
import Derived.Below
import Derived.RowKit3
import Derived.BigRegion
import Derived.Deep.RegionHeld3
import Derived.ChangeAlike
import Derived.Lib.Hide
import Derived.Deep.AppendLies
import Derived.OwnWalk
import Derived.Laws.Pointers
import Derived.StillTactics
import Derived.Deep.RegionLaw
import Derived.Deep.RegionWith
import Derived.BigQuiet

/-! YtpmamgdblbplcaaHSSwap -/
namespace Go.Proofs.Ytpmamgdblbplcaa.Hs
open Go.RowKit Go.Proofs.Ytpmamgdblbplcaa.Mp Go.Proofs.Ytpmamgdblbplcaa.HeapModel
open Go.Proofs.Ytpmamgdblbplcaa.Hp (blk_set heap_drew blk_cell blk_frozen below_drewN int_half ltN)
set_option linter.unusedVariables false
set_option linter.unusedSimpArgs false

set_option maxHeartbeats 4000000 in
theorem swap_walk (p g B : Nat) (cap n : Nat) (i k : Nat) (hi : i < n) (hk : k < n) (hne : ¬ i = k) (hn : n ≤ 1000000) (x : ByteArray) (a b m : Int) (y : ByteArray) (c d e : Int) (w : World)
    (hs : w.cell? ⟨p, 1, none⟩ = some (.slice (some ⟨g, 0, none⟩) n cap)) (hm : w.cell? ⟨p, 2, none⟩ = some (.map (some B))) (hpg : ¬ g = p)
    (h1 : w.cell? ⟨g, i * 4, none⟩ = some (.string x)) (h2 : w.cell? ⟨g, i * 4 + 1, none⟩ = some (.int .i64 a)) (h3 : w.cell? ⟨g, i * 4 + 2, none⟩ = some (.int .i64 b)) (h4 : w.cell? ⟨g, i * 4 + 3, none⟩ = some (.int .i64 m))
    (k1 : w.cell? ⟨g, k * 4, none⟩ = some (.string y)) (k2 : w.cell? ⟨g, k * 4 + 1, none⟩ = some (.int .i64 c)) (k3 : w.cell? ⟨g, k * 4 + 2, none⟩ = some (.int .i64 d)) (k4 : w.cell? ⟨g, k * 4 + 3, none⟩ = some (.int .i64 e))
    (hf : ∀ j, w.frozen? ⟨g, j, none⟩ = false) (W1 : World)
    (hW1 : W1 = ((((((((w.setCell ⟨g, i * 4, none⟩ (.string y)).setCell ⟨g, i * 4 + 1, none⟩ (.int .i64 c)).setCell ⟨g, i * 4 + 2, none⟩ (.int .i64 d)).setCell ⟨g, i * 4 + 3, none⟩ (.int .i64 e)).setCell ⟨g, k * 4, none⟩ (.string x)).setCell ⟨g, k * 4 + 1, none⟩ (.int .i64 a)).setCell ⟨g, k * 4 + 2, none⟩ (.int .i64 b)).setCell ⟨g, k * 4 + 3, none⟩ (.int .i64 m)).drew)
    (vx vy : Value) (st1 st2 : Nat) (W2 W3 : World)
    (hs1 : W1.cell? ⟨p, 1, none⟩ = some (.slice (some ⟨g, 0, none⟩) n cap)) (hm1 : W1.cell? ⟨p, 2, none⟩ = some (.map (some B))) (c1 : W1.cell? ⟨g, i * 4, none⟩ = some (.string y)) (c2 : W1.cell? ⟨g, k * 4, none⟩ = some (.string x))
    (hs2 : W2.cell? ⟨p, 1, none⟩ = some (.slice (some ⟨g, 0, none⟩) n cap)) (hm2 : W2.cell? ⟨p, 2, none⟩ = some (.map (some B))) (d1 : W2.cell? ⟨g, i * 4, none⟩ = some (.string y)) (d2 : W2.cell? ⟨g, k * 4, none⟩ = some (.string x))
    (hs3 : W3.cell? ⟨p, 1, none⟩ = some (.slice (some ⟨g, 0, none⟩) n cap)) (hm3 : W3.cell? ⟨p, 2, none⟩ = some (.map (some B))) (e1 : W3.cell? ⟨g, i * 4, none⟩ = some (.string y)) (e2 : W3.cell? ⟨g, k * 4, none⟩ = some (.string x))
    (E1 : (Instr.mapEntry 119 (.map (some B)) (.string y)).run Try.prog W1.drew = .ok (.tuple #[vy, .int .i64 (st1 : Int)]) W1.drew)
    (E2 : (Instr.entryStore 119 (.map (some B)) (.int .i64 (st1 : Int)) (.int .i64 i)).run Try.prog W1.drew = .ok () W2)
    (E3 : (Instr.mapEntry 119 (.map (some B)) (.string x)).run Try.prog W2 = .ok (.tuple #[vx, .int .i64 (st2 : Int)]) W2)
    (E4 : (Instr.entryStore 119 (.map (some B)) (.int .i64 (st2 : Int)) (.int .i64 k)).run Try.prog W2 = .ok () W3) :
    Calls Try.prog 108 #[.pointer (some ⟨p, 0, none⟩), .int .i64 i, .int .i64 k] w fun en w' => en = .returned (.tuple #[]) ∧ w' = W3 := by
  have hi' : (i : Int) < (n : Int) := by omega
  have hk' : (k : Int) < (n : Int) := by omega
  have HW1 := Lib.hid hW1
  clear hW1
  go_enter Try.func108, Try.ntmps108
  go_wp2
  go_region
  go_wp2_with fail
  rw [← HW1.out]
  clear HW1 h1 h2 h3 h4 k1 k2 k3 k4 hs hm hf
  go_region_held3 (fun w' => w'.cell? ⟨p, 1, none⟩ = some (.slice (some ⟨g, 0, none⟩) n cap) ∧ w'.cell? ⟨p, 2, none⟩ = some (.map (some B)) ∧ w'.cell? ⟨g, i * 4, none⟩ = some (.string y) ∧ w'.cell? ⟨g, k * 4, none⟩ = some (.string x)) (first | exact ⟨hs1, hm1, c1, c2⟩ | exact ⟨hs2, hm2, d1, d2⟩ | exact ⟨hs3, hm3, e1, e2⟩) (first | fail)
  go_wp2
  go_end0
  exact ⟨rfl, rfl⟩

set_option maxHeartbeats 4000000 in
theorem swap_walk_eq (p g B : Nat) (cap n : Nat) (i : Nat) (hi : i < n) (hn : n ≤ 1000000) (x : ByteArray) (a b m : Int) (w : World)
    (hs : w.cell? ⟨p, 1, none⟩ = some (.slice (some ⟨g, 0, none⟩) n cap)) (hm : w.cell? ⟨p, 2, none⟩ = some (.map (some B))) (hpg : ¬ g = p)
    (h1 : w.cell? ⟨g, i * 4, none⟩ = some (.string x)) (h2 : w.cell? ⟨g, i * 4 + 1, none⟩ = some (.int .i64 a)) (h3 : w.cell? ⟨g, i * 4 + 2, none⟩ = some (.int .i64 b)) (h4 : w.cell? ⟨g, i * 4 + 3, none⟩ = some (.int .i64 m))
    (hf : ∀ j, w.frozen? ⟨g, j, none⟩ = false) (W1 : World)
    (hW1 : W1 = ((((((((w.setCell ⟨g, i * 4, none⟩ (.string x)).setCell ⟨g, i * 4 + 1, none⟩ (.int .i64 a)).setCell ⟨g, i * 4 + 2, none⟩ (.int .i64 b)).setCell ⟨g, i * 4 + 3, none⟩ (.int .i64 m)).setCell ⟨g, i * 4, none⟩ (.string x)).setCell ⟨g, i * 4 + 1, none⟩ (.int .i64 a)).setCell ⟨g, i * 4 + 2, none⟩ (.int .i64 b)).setCell ⟨g, i * 4 + 3, none⟩ (.int .i64 m)).drew)
    (vx vy : Value) (st1 st2 : Nat) (W2 W3 : World)
    (hs1 : W1.cell? ⟨p, 1, none⟩ = some (.slice (some ⟨g, 0, none⟩) n cap)) (hm1 : W1.cell? ⟨p, 2, none⟩ = some (.map (some B))) (c1 : W1.cell? ⟨g, i * 4, none⟩ = some (.string x)) 
    (hs2 : W2.cell? ⟨p, 1, none⟩ = some (.slice (some ⟨g, 0, none⟩) n cap)) (hm2 : W2.cell? ⟨p, 2, none⟩ = some (.map (some B))) (d1 : W2.cell? ⟨g, i * 4, none⟩ = some (.string x)) 
    (hs3 : W3.cell? ⟨p, 1, none⟩ = some (.slice (some ⟨g, 0, none⟩) n cap)) (hm3 : W3.cell? ⟨p, 2, none⟩ = some (.map (some B))) (e1 : W3.cell? ⟨g, i * 4, none⟩ = some (.string x)) 
    (E1 : (Instr.mapEntry 119 (.map (some B)) (.string x)).run Try.prog W1.drew = .ok (.tuple #[vy, .int .i64 (st1 : Int)]) W1.drew)
    (E2 : (Instr.entryStore 119 (.map (some B)) (.int .i64 (st1 : Int)) (.int .i64 i)).run Try.prog W1.drew = .ok () W2)
    (E3 : (Instr.mapEntry 119 (.map (some B)) (.string x)).run Try.prog W2 = .ok (.tuple #[vx, .int .i64 (st2 : Int)]) W2)
    (E4 : (Instr.entryStore 119 (.map (some B)) (.int .i64 (st2 : Int)) (.int .i64 i)).run Try.prog W2 = .ok () W3) :
    Calls Try.prog 108 #[.pointer (some ⟨p, 0, none⟩), .int .i64 i, .int .i64 i] w fun en w' => en = .returned (.tuple #[]) ∧ w' = W3 := by
  have hi' : (i : Int) < (n : Int) := by omega
  have HW1 := Lib.hid hW1
  clear hW1
  go_enter Try.func108, Try.ntmps108
  go_wp2
  go_region
  go_wp2_with fail
  rw [← HW1.out]
  clear HW1 h1 h2 h3 h4 hs hm hf
  go_region_held3 (fun w' => w'.cell? ⟨p, 1, none⟩ = some (.slice (some ⟨g, 0, none⟩) n cap) ∧ w'.cell? ⟨p, 2, none⟩ = some (.map (some B)) ∧ w'.cell? ⟨g, i * 4, none⟩ = some (.string x)) (first | exact ⟨hs1, hm1, c1⟩ | exact ⟨hs2, hm2, d1⟩ | exact ⟨hs3, hm3, e1⟩) (first | fail)
  go_wp2
  go_end0
  exact ⟨rfl, rfl⟩
end Go.Proofs.Ytpmamgdblbplcaa.Hs

/-! YtpmamgdblbplcaaHSRep -/
namespace Go.Proofs.Ytpmamgdblbplcaa.Hs
open Go.RowKit Go.Proofs.Ytpmamgdblbplcaa.Mp Go.Proofs.Ytpmamgdblbplcaa.HeapModel Go.ChangeMaps
open Go.Proofs.Ytpmamgdblbplcaa.Hp (blk_set heap_drew blk_cell blk_frozen below_drewN int_half ltN)
set_option linter.unusedVariables false
set_option linter.unusedSimpArgs false

instance : Inhabited (It ByteArray) := ⟨⟨ByteArray.empty, 0, 0, 0⟩⟩
def ic (x : It ByteArray) : List Value := [.string x.v, .int .i64 x.a, .int .i64 x.b, .int .i64 x.m]
def cellsOf (l : List (It ByteArray)) : List Value := l.flatMap ic
theorem cellsOf_length (l : List (It ByteArray)) : (cellsOf l).length = l.length * 4 := by
  induction l with
  | nil => rfl
  | cons a t ih => unfold cellsOf at *; rw [List.flatMap_cons, List.length_append, ih]; simp [ic]; omega
theorem cellsOf_get (l : List (It ByteArray)) (i j : Nat) (hi : i < l.length) (hj : j < 4) : (cellsOf l)[i * 4 + j]? = (ic (at_ l i))[j]? := by
  induction l generalizing i with
  | nil => simp at hi
  | cons a t ih =>
    unfold cellsOf at *
    rw [List.flatMap_cons]
    cases i with
    | zero =>
      rw [List.getElem?_append_left (by simp [ic]; omega)]
      simp [at_]
    | succ i =>
      have hl : (ic a).length = 4 := rfl
      rw [List.getElem?_append_right (by rw [hl]; omega), hl, show (i + 1) * 4 + j - 4 = i * 4 + j from by omega, ih i (by simpa using hi)]
      simp [at_]
/-- an element's cells laid in the place of another's -/
def lay4 (cs : List Value) (o : Nat) (x : It ByteArray) : List Value := (((cs.set o (.string x.v)).set (o + 1) (.int .i64 x.a)).set (o + 2) (.int .i64 x.b)).set (o + 3) (.int .i64 x.m)
theorem cellsOf_set (l : List (It ByteArray)) (i : Nat) (x : It ByteArray) (hi : i < l.length) : cellsOf (l.set i x) = lay4 (cellsOf l) (i * 4) x := by
  induction l generalizing i with
  | nil => simp at hi
  | cons a t ih =>
    unfold cellsOf at *
    cases i with
    | zero => simp [List.flatMap_cons, ic, lay4]
    | succ i =>
      rw [List.set_cons_succ, List.flatMap_cons, List.flatMap_cons, ih i (by simpa using hi)]
      have : (i + 1) * 4 = i * 4 + 1 + 1 + 1 + 1 := by omega
      rw [this]
      simp [ic, lay4]

def fits (n : ByteArray) : Prop := n.size ≤ maxLen
structure HRep (w : World) (p : Nat) (v : Value) (B : Nat) (room : Int) (l : List (It ByteArray)) (when : Int) (f : ByteArray → Option Value) : Prop where
  top : w.heap[p]? = some (.cells #[.int .i64 room, v, .map (some B), .int .i64 when] 122 (0, 0))
  row : w.ownsRow 0 128 4 v l.length (cellsOf l)
  map : ∃ es clock, MRep Try.prog 9 Value.string w B es clock f
  good : ∀ x ∈ l, fits x.v
  few : l.length ≤ 1000

theorem keyed : Maps.Keyed Try.prog 9 := Maps.string_keyed Try.underlying9
theorem int_inj (a b : Int) (h : Value.int .i64 a = Value.int .i64 b) : a = b := by injection h
theorem str_inj (a b : ByteArray) (h : Value.string a = Value.string b) : a = b := by injection h

/-- the row, laid open -/
theorem HRep.open_row {w : World} {p : Nat} {v : Value} {B : Nat} {room : Int} {l : List (It ByteArray)} {when : Int} {f : ByteArray → Option Value} (h : HRep w p v B room l when f) (hl : 0 < l.length) :
    ∃ g cap cur, v = .slice (some ⟨g, 0, none⟩) l.length cap ∧ w.heap[g]? = some (.cells cur 128 (0, 0)) ∧ l.length ≤ cap ∧ cap ≤ maxLen ∧ cur.size = cap * 4 ∧ cur.toList.take (l.length * 4) = cellsOf l ∧ g ≠ p ∧ g ≠ B := by
  obtain ⟨h1, h2⟩ := h.row
  rcases h2 with ⟨_, h3⟩ | ⟨g, cap, cur, h3, h4, h5, h6, h7, h8, h9⟩
  · omega
  · refine ⟨g, cap, cur, h3, h5, h6, h7, h8, h9, ?_, ?_⟩
    · rintro rfl
      rw [h.top] at h5
      injection h5 with h5
      injection h5 with _ h5
      cases h5
    · rintro rfl
      obtain ⟨es, clock, hm⟩ := h.map
      rw [hm.blk] at h5
      cases h5
theorem HRep.ne_map {w : World} {p : Nat} {v : Value} {B : Nat} {room : Int} {l : List (It ByteArray)} {when : Int} {f : ByteArray → Option Value} (h : HRep w p v B room l when f) : p ≠ B := by
  rintro rfl
  obtain ⟨es, clock, hm⟩ := h.map
  have := hm.blk
  rw [h.top] at this
  cases this
theorem cur_cell {cur : Array Value} {l : List (It ByteArray)} (h9 : cur.toList.take (l.length * 4) = cellsOf l) (i j : Nat) (hi : i < l.length) (hj : j < 4) : cur[i * 4 + j]? = (ic (at_ l i))[j]? := by
  rw [← cellsOf_get l i j hi hj, ← h9, List.getElem?_take, if_pos (by omega)]
  simp

theorem swap_rep {w : World} {p : Nat} {v : Value} {B : Nat} {room : Int} {l : List (It ByteArray)} {when : Int} {f : ByteArray → Option Value} (h : HRep w p v B room l when f) (i k : Nat) (hi : i < l.length) (hk : k < l.length)
    (fi : (f (at_ l i).v).isSome = true) (fk : (f (at_ l k).v).isSome = true) :
    Calls Try.prog 108 #[.pointer (some ⟨p, 0, none⟩), .int .i64 i, .int .i64 k] w fun e w' => e = .returned (.tuple #[]) ∧
      HRep w' p v B room (swap l i k) when (upd (upd f (at_ l k).v (some (.int .i64 i))) (at_ l i).v (some (.int .i64 k))) ∧ Hp.Touch (fun b => b = B ∨ v.ownBlock = some b) w w' := by
  obtain ⟨g, cap, cur, hv, hg, hn, hc, hs, ht, hgp, hgB⟩ := h.open_row (by omega)
  obtain ⟨es, clock, hm⟩ := h.map
  have hpB := h.ne_map
  have hfew := h.few
  have gi : at_ l i ∈ l := by unfold at_; rw [List.getD_eq_getElem?_getD, List.getElem?_eq_getElem hi]; exact List.getElem_mem hi
  have gk : at_ l k ∈ l := by unfold at_; rw [List.getD_eq_getElem?_getD, List.getElem?_eq_getElem hk]; exact List.getElem_mem hk
  have wi := h.good _ gi
  have wk := h.good _ gk
  -- the world behind the exchange
  obtain ⟨W1, hW1⟩ : ∃ W1 : World, W1 = ((((((((w.setCell ⟨g, i * 4, none⟩ (.string (at_ l k).v)).setCell ⟨g, i * 4 + 1, none⟩ (.int .i64 (at_ l k).a)).setCell ⟨g, i * 4 + 2, none⟩ (.int .i64 (at_ l k).b)).setCell ⟨g, i * 4 + 3, none⟩ (.int .i64 (at_ l k).m)).setCell ⟨g, k * 4, none⟩ (.string (at_ l i).v)).setCell ⟨g, k * 4 + 1, none⟩ (.int .i64 (at_ l i).a)).setCell ⟨g, k * 4 + 2, none⟩ (.int .i64 (at_ l i).b)).setCell ⟨g, k * 4 + 3, none⟩ (.int .i64 (at_ l i).m)).drew := ⟨_, rfl⟩
  have b1 := blk_set (blk_set (blk_set (blk_set (blk_set (blk_set (blk_set (blk_set hg (i * 4) (.string (at_ l k).v)) (i * 4 + 1) (.int .i64 (at_ l k).a)) (i * 4 + 2) (.int .i64 (at_ l k).b)) (i * 4 + 3) (.int .i64 (at_ l k).m)) (k * 4) (.string (at_ l i).v)) (k * 4 + 1) (.int .i64 (at_ l i).a)) (k * 4 + 2) (.int .i64 (at_ l i).b)) (k * 4 + 3) (.int .i64 (at_ l i).m)
  obtain ⟨cur1, hcur1⟩ : ∃ c : Array Value, c = ((((((((cur.setIfInBounds (i * 4) (.string (at_ l k).v)).setIfInBounds (i * 4 + 1) (.int .i64 (at_ l k).a)).setIfInBounds (i * 4 + 2) (.int .i64 (at_ l k).b)).setIfInBounds (i * 4 + 3) (.int .i64 (at_ l k).m)).setIfInBounds (k * 4) (.string (at_ l i).v)).setIfInBounds (k * 4 + 1) (.int .i64 (at_ l i).a)).setIfInBounds (k * 4 + 2) (.int .i64 (at_ l i).b)).setIfInBounds (k * 4 + 3) (.int .i64 (at_ l i).m)) := ⟨_, rfl⟩
  rw [← hcur1] at b1
  have t1 : cur1.toList.take (l.length * 4) = cellsOf (swap l i k) := by
    unfold swap
    rw [cellsOf_set _ _ _ (by simpa using hk), cellsOf_set _ _ _ hi, ← ht, hcur1]
    simp only [Array.toList_setIfInBounds, lay4, List.take_set]
  have s1 : cur1.size = cap * 4 := by rw [hcur1]; simp [hs]
  have T1 : Hp.Touch (fun b => b = B ∨ v.ownBlock = some b) w W1 := by
    rw [hW1]
    have hS : v.ownBlock = some g := by rw [hv]; rfl
    exact (((((((((Hp.Touch.refl _ w).setCell (Or.inr hS) _).setCell (Or.inr hS) _).setCell (Or.inr hS) _).setCell (Or.inr hS) _).setCell (Or.inr hS) _).setCell (Or.inr hS) _).setCell (Or.inr hS) _).setCell (Or.inr hS) _).drew
  have hW1g : W1.heap[g]? = some (.cells cur1 128 (0, 0)) := by rw [hW1, heap_drew]; exact b1
  have far : ∀ b, b ≠ g → W1.heap[b]? = w.heap[b]? := by
    intro b hb
    rw [hW1, heap_drew, Below.heap_setCell _ _ _ b hb, Below.heap_setCell _ _ _ b hb, Below.heap_setCell _ _ _ b hb, Below.heap_setCell _ _ _ b hb, Below.heap_setCell _ _ _ b hb, Below.heap_setCell _ _ _ b hb, Below.heap_setCell _ _ _ b hb, Below.heap_setCell _ _ _ b hb]
  have hW1p := (far p (Ne.symm hgp)).trans h.top
  have hm1 : MRep Try.prog 9 Value.string W1.drew B es clock f := hm.move (far B (Ne.symm hgB))
  obtain ⟨vk, hvk⟩ := Option.isSome_iff_exists.1 fk
  obtain ⟨st1, E1, EA⟩ := hm1.entry keyed Try.underlying119 str_inj (Go.WideMaps.keyOf_string_mk Try.underlying9 wk) hvk
  obtain ⟨E2, hm2⟩ := EA (.int .i64 i)
  generalize hes2 : es.modify (es.toList.findIdx (fun e => e.born == st1)) (fun e => { e with key := Value.string (at_ l k).v, val := Value.int .i64 i }) = es2 at E2 hm2
  obtain ⟨W2, hW2⟩ : ∃ W2, W2 = setBlock W1.drew B (.map es2 clock) := ⟨_, rfl⟩
  rw [← hW2] at E2 hm2
  have far2 : ∀ b, b ≠ B → W2.heap[b]? = W1.heap[b]? := fun b hb => by rw [hW2]; exact heap_setBlock_ne _ _ _ _ hb
  have f2 : (upd f (at_ l k).v (some (.int .i64 i)) (at_ l i).v).isSome = true := by
    unfold upd
    split
    · rfl
    · exact fi
  obtain ⟨vi, hvi⟩ := Option.isSome_iff_exists.1 f2
  obtain ⟨st2, E3, EB⟩ := hm2.entry keyed Try.underlying119 str_inj (Go.WideMaps.keyOf_string_mk Try.underlying9 wi) hvi
  obtain ⟨E4, hm3⟩ := EB (.int .i64 k)
  generalize es2.modify (es2.toList.findIdx (fun e => e.born == st2)) (fun e => { e with key := Value.string (at_ l i).v, val := Value.int .i64 k }) = es3 at E4 hm3
  obtain ⟨W3, hW3⟩ : ∃ W3, W3 = setBlock W2 B (.map es3 clock) := ⟨_, rfl⟩
  rw [← hW3] at E4 hm3
  have far3 : ∀ b, b ≠ B → W3.heap[b]? = W2.heap[b]? := fun b hb => by rw [hW3]; exact heap_setBlock_ne _ _ _ _ hb
  have hW2p := (far2 p hpB).trans hW1p
  have hW3p := (far3 p hpB).trans hW2p
  have hW2g := (far2 g hgB).trans hW1g
  have hW3g := (far3 g hgB).trans hW2g
  have T3 : Hp.Touch (fun b => b = B ∨ v.ownBlock = some b) w W3 := by
    rw [hW3, hW2]
    exact (T1.drew.setBlock (Or.inl rfl) _).setBlock (Or.inl rfl) _
  have q0 := cur_cell ht i 0 hi (by omega)
  have q1 := cur_cell ht i 1 hi (by omega)
  have q2 := cur_cell ht i 2 hi (by omega)
  have q3 := cur_cell ht i 3 hi (by omega)
  have r0 := cur_cell ht k 0 hk (by omega)
  have r1 := cur_cell ht k 1 hk (by omega)
  have r2 := cur_cell ht k 2 hk (by omega)
  have r3 := cur_cell ht k 3 hk (by omega)
  have t1' : cur1.toList.take ((swap l i k).length * 4) = cellsOf (swap l i k) := by rw [swap_length]; exact t1
  have n0 := cur_cell t1' i 0 (by rw [swap_length]; exact hi) (by omega)
  have m0 := cur_cell t1' k 0 (by rw [swap_length]; exact hk) (by omega)
  rw [at_swap l i k _ hi hk] at n0 m0
  rw [if_pos rfl] at m0
  have fin : HRep W3 p v B room (swap l i k) when (upd (upd f (at_ l k).v (some (.int .i64 i))) (at_ l i).v (some (.int .i64 k))) := by
    refine ⟨hW3p, ⟨?_, Or.inr ⟨g, cap, cur1, ?_, Nat.zero_le _, hW3g, ?_, hc, s1, t1'⟩⟩, ⟨_, _, hm3⟩, ?_, ?_⟩
    · rw [cellsOf_length]
    · rw [swap_length]; exact hv
    · rw [swap_length]; exact hn
    · intro x hx
      exact h.good x ((swap_perm l i k hi hk).mem_iff.1 hx)
    · rw [swap_length]; exact h.few
  subst hv
  by_cases hik : i = k
  · subst hik
    rw [if_pos rfl] at n0
    refine (swap_walk_eq p g B cap l.length i hi (by omega) (at_ l i).v (at_ l i).a (at_ l i).b (at_ l i).m w ((blk_cell h.top 1).trans rfl) ((blk_cell h.top 2).trans rfl) hgp ((blk_cell hg _).trans q0) ((blk_cell hg _).trans q1) ((blk_cell hg _).trans q2) ((blk_cell hg _).trans q3) (blk_frozen hg) W1 hW1
      vi vk st1 st2 W2 W3 ((blk_cell hW1p 1).trans rfl) ((blk_cell hW1p 2).trans rfl) ((blk_cell hW1g _).trans n0) ((blk_cell hW2p 1).trans rfl) ((blk_cell hW2p 2).trans rfl) ((blk_cell hW2g _).trans n0) ((blk_cell hW3p 1).trans rfl) ((blk_cell hW3p 2).trans rfl) ((blk_cell hW3g _).trans n0) E1 E2 E3 E4).mono ?_
    rintro e w' ⟨rfl, rfl⟩
    exact ⟨rfl, fin, T3⟩
  · rw [if_neg hik] at n0
    rw [if_pos rfl] at n0
    refine (swap_walk p g B cap l.length i k hi hk hik (by omega) (at_ l i).v (at_ l i).a (at_ l i).b (at_ l i).m (at_ l k).v (at_ l k).a (at_ l k).b (at_ l k).m w ((blk_cell h.top 1).trans rfl) ((blk_cell h.top 2).trans rfl) hgp ((blk_cell hg _).trans q0) ((blk_cell hg _).trans q1) ((blk_cell hg _).trans q2) ((blk_cell hg _).trans q3)
      ((blk_cell hg _).trans r0) ((blk_cell hg _).trans r1) ((blk_cell hg _).trans r2) ((blk_cell hg _).trans r3) (blk_frozen hg) W1 hW1
      vi vk st1 st2 W2 W3 ((blk_cell hW1p 1).trans rfl) ((blk_cell hW1p 2).trans rfl) ((blk_cell hW1g _).trans n0) ((blk_cell hW1g _).trans m0) ((blk_cell hW2p 1).trans rfl) ((blk_cell hW2p 2).trans rfl) ((blk_cell hW2g _).trans n0) ((blk_cell hW2g _).trans m0) ((blk_cell hW3p 1).trans rfl) ((blk_cell hW3p 2).trans rfl) ((blk_cell hW3g _).trans n0) ((blk_cell hW3g _).trans m0) E1 E2 E3 E4).mono ?_
    rintro e w' ⟨rfl, rfl⟩
    exact ⟨rfl, fin, T3⟩
end Go.Proofs.Ytpmamgdblbplcaa.Hs

/-! YtpmamgdblbplcaaHSLess -/
namespace Go.Proofs.Ytpmamgdblbplcaa.Hs
open Go.RowKit Go.Proofs.Ytpmamgdblbplcaa.Mp Go.Proofs.Ytpmamgdblbplcaa.HeapModel Go.ChangeMaps
open Go.Proofs.Ytpmamgdblbplcaa.Hp (blk_set heap_drew blk_cell blk_frozen below_drewN int_half ltN)
set_option linter.unusedVariables false
set_option linter.unusedSimpArgs false

set_option maxHeartbeats 1000000 in
theorem less_walk (p g : Nat) (cap n : Nat) (i k : Nat) (hi : i < n) (hk : k < n) (hn : n ≤ 1000000) (x : ByteArray) (a b m : Int) (y : ByteArray) (c d e : Int) (w : World)
    (hpl : p < w.heap.size) (hgl : g < w.heap.size) (hs : w.cell? ⟨p, 1, none⟩ = some (.slice (some ⟨g, 0, none⟩) n cap))
    (h1 : w.cell? ⟨g, i * 4, none⟩ = some (.string x)) (h2 : w.cell? ⟨g, i * 4 + 1, none⟩ = some (.int .i64 a)) (h3 : w.cell? ⟨g, i * 4 + 2, none⟩ = some (.int .i64 b)) (h4 : w.cell? ⟨g, i * 4 + 3, none⟩ = some (.int .i64 m))
    (k1 : w.cell? ⟨g, k * 4, none⟩ = some (.string y)) (k2 : w.cell? ⟨g, k * 4 + 1, none⟩ = some (.int .i64 c)) (k3 : w.cell? ⟨g, k * 4 + 2, none⟩ = some (.int .i64 d)) (k4 : w.cell? ⟨g, k * 4 + 3, none⟩ = some (.int .i64 e)) :
    Calls Try.prog 110 #[.pointer (some ⟨p, 0, none⟩), .int .i64 i, .int .i64 k] w fun en w' =>
      en = .returned (.bool (ltN a b m c d e)) ∧ Below w.heap.size w w' := by
  have hi' : (i : Int) < (n : Int) := by omega
  have hk' : (k : Int) < (n : Int) := by omega
  have hb : ∀ w', w' = w ∨ True → True := fun _ _ => trivial
  by_cases hac : a = c
  · subst hac
    have t1 : (a != a) = false := by simp
    by_cases hbd : b = d
    · subst hbd
      have t2 : (b != b) = false := by simp
      have R : Hid (ltN a b m a b e = decide (m < e)) := Lib.hid (by simp [ltN])
      go_enter Try.func110, Try.ntmps110
      go_wp2
      go_region_held3 (fun w' => w'.cell? ⟨p, 1, none⟩ = some (.slice (some ⟨g, 0, none⟩) n cap) ∧ w'.cell? ⟨g, i * 4, none⟩ = some (.string x) ∧ w'.cell? ⟨g, i * 4 + 1, none⟩ = some (.int .i64 a) ∧ w'.cell? ⟨g, i * 4 + 2, none⟩ = some (.int .i64 b) ∧ w'.cell? ⟨g, i * 4 + 3, none⟩ = some (.int .i64 m)
        ∧ w'.cell? ⟨g, k * 4, none⟩ = some (.string y) ∧ w'.cell? ⟨g, k * 4 + 1, none⟩ = some (.int .i64 a) ∧ w'.cell? ⟨g, k * 4 + 2, none⟩ = some (.int .i64 b) ∧ w'.cell? ⟨g, k * 4 + 3, none⟩ = some (.int .i64 e)) (first | exact ⟨hs, h1, h2, h3, h4, k1, k2, k3, k4⟩ | (simp [go_sem, World.cell?_alloc_past, *]; done)) (first | fail)
      all_goals go_wp2
      all_goals go_ret
      all_goals exact ⟨by rw [R.out]; rfl, by repeat (first | exact Below.refl _ _ | refine Below.drew ?_ | refine Below.setCell ?_ (by simp) _ | refine Below.alloc ?_ (by simp) _)⟩
    · have t2 : (b != d) = true := by simpa using hbd
      have R : Hid (ltN a b m a d e = decide (b < d)) := Lib.hid (by simp [ltN, hbd])
      clear hbd
      go_enter Try.func110, Try.ntmps110
      go_wp2
      go_region_held3 (fun w' => w'.cell? ⟨p, 1, none⟩ = some (.slice (some ⟨g, 0, none⟩) n cap) ∧ w'.cell? ⟨g, i * 4, none⟩ = some (.string x) ∧ w'.cell? ⟨g, i * 4 + 1, none⟩ = some (.int .i64 a) ∧ w'.cell? ⟨g, i * 4 + 2, none⟩ = some (.int .i64 b) ∧ w'.cell? ⟨g, i * 4 + 3, none⟩ = some (.int .i64 m)
        ∧ w'.cell? ⟨g, k * 4, none⟩ = some (.string y) ∧ w'.cell? ⟨g, k * 4 + 1, none⟩ = some (.int .i64 a) ∧ w'.cell? ⟨g, k * 4 + 2, none⟩ = some (.int .i64 d) ∧ w'.cell? ⟨g, k * 4 + 3, none⟩ = some (.int .i64 e)) (first | exact ⟨hs, h1, h2, h3, h4, k1, k2, k3, k4⟩ | (simp [go_sem, World.cell?_alloc_past, *]; done)) (first | fail)
      all_goals go_wp2
      all_goals go_ret
      all_goals exact ⟨by rw [R.out]; rfl, by repeat (first | exact Below.refl _ _ | refine Below.drew ?_ | refine Below.setCell ?_ (by simp) _ | refine Below.alloc ?_ (by simp) _)⟩
  · have t1 : (a != c) = true := by simpa using hac
    have R : Hid (ltN a b m c d e = decide (a < c)) := Lib.hid (by simp [ltN, hac])
    clear hac
    go_enter Try.func110, Try.ntmps110
    go_wp2
    go_region_held3 (fun w' => w'.cell? ⟨p, 1, none⟩ = some (.slice (some ⟨g, 0, none⟩) n cap) ∧ w'.cell? ⟨g, i * 4, none⟩ = some (.string x) ∧ w'.cell? ⟨g, i * 4 + 1, none⟩ = some (.int .i64 a) ∧ w'.cell? ⟨g, i * 4 + 2, none⟩ = some (.int .i64 b) ∧ w'.cell? ⟨g, i * 4 + 3, none⟩ = some (.int .i64 m)
      ∧ w'.cell? ⟨g, k * 4, none⟩ = some (.string y) ∧ w'.cell? ⟨g, k * 4 + 1, none⟩ = some (.int .i64 c) ∧ w'.cell? ⟨g, k * 4 + 2, none⟩ = some (.int .i64 d) ∧ w'.cell? ⟨g, k * 4 + 3, none⟩ = some (.int .i64 e)) (first | exact ⟨hs, h1, h2, h3, h4, k1, k2, k3, k4⟩ | (simp [go_sem, World.cell?_alloc_past, *]; done)) (first | fail)
    all_goals go_wp2
    all_goals go_ret
    all_goals exact ⟨by rw [R.out]; rfl, by repeat (first | exact Below.refl _ _ | refine Below.drew ?_ | refine Below.setCell ?_ (by simp) _ | refine Below.alloc ?_ (by simp) _)⟩

theorem less_rep {w : World} {p : Nat} {v : Value} {B : Nat} {room : Int} {l : List (It ByteArray)} {when : Int} {f : ByteArray → Option Value} (h : HRep w p v B room l when f) (i k : Nat) (hi : i < l.length) (hk : k < l.length) :
    Calls Try.prog 110 #[.pointer (some ⟨p, 0, none⟩), .int .i64 i, .int .i64 k] w fun e w' => e = .returned (.bool (lt (at_ l i) (at_ l k))) ∧ Below w.heap.size w w' := by
  obtain ⟨g, cap, cur, hv, hg, hn, hc, hs, ht, hgp, hgB⟩ := h.open_row (by omega)
  have hfew := h.few
  subst hv
  exact less_walk p g cap l.length i k hi hk (by omega) _ _ _ _ _ _ _ _ w (Array.getElem?_eq_some_iff.1 h.top).1 (Array.getElem?_eq_some_iff.1 hg).1 ((blk_cell h.top 1).trans rfl)
    ((blk_cell hg _).trans (cur_cell ht i 0 hi (by omega))) ((blk_cell hg _).trans (cur_cell ht i 1 hi (by omega))) ((blk_cell hg _).trans (cur_cell ht i 2 hi (by omega))) ((blk_cell hg _).trans (cur_cell ht i 3 hi (by omega)))
    ((blk_cell hg _).trans (cur_cell ht k 0 hk (by omega))) ((blk_cell hg _).trans (cur_cell ht k 1 hk (by omega))) ((blk_cell hg _).trans (cur_cell ht k 2 hk (by omega))) ((blk_cell hg _).trans (cur_cell ht k 3 hk (by omega)))
end Go.Proofs.Ytpmamgdblbplcaa.Hs

/-! YtpmamgdblbplcaaHSLoop -/
namespace Go.Proofs.Ytpmamgdblbplcaa.Hs
open Go.RowKit Go.Proofs.Ytpmamgdblbplcaa.Mp Go.Proofs.Ytpmamgdblbplcaa.HeapModel Go.ChangeMaps
open Go.Proofs.Ytpmamgdblbplcaa.Hp (blk_set heap_drew blk_cell blk_frozen below_drewN int_half ltN)
set_option linter.unusedVariables false
set_option linter.unusedSimpArgs false

/-- where a thing stands -/
def idxF (l : List (It ByteArray)) : ByteArray → Option Value := fun a => (l.findIdx? (fun x => decide (x.v = a))).map fun j => .int .i64 (j : Int)
def Keys (l : List (It ByteArray)) : Prop := (l.map (·.v)).Nodup
theorem at_get (l : List (It ByteArray)) (i : Nat) (hi : i < l.length) : at_ l i = l[i] := by unfold at_; rw [List.getD_eq_getElem?_getD, List.getElem?_eq_getElem hi]; rfl
theorem keys_inj {l : List (It ByteArray)} (h : Keys l) {i k : Nat} (hi : i < l.length) (hk : k < l.length) (e : (at_ l i).v = (at_ l k).v) : i = k := by
  rw [at_get l i hi, at_get l k hk] at e
  have h1 : (l.map (·.v))[i]? = some l[i].v := by rw [List.getElem?_map, List.getElem?_eq_getElem hi]; rfl
  have h2 : (l.map (·.v))[k]? = some l[i].v := by rw [List.getElem?_map, List.getElem?_eq_getElem hk, e]; rfl
  exact (List.getElem?_inj (List.getElem?_eq_some_iff.1 h1).1 h).1 (h1.trans h2.symm)
theorem idxF_at {l : List (It ByteArray)} (h : Keys l) {i : Nat} (hi : i < l.length) : idxF l (at_ l i).v = some (.int .i64 (i : Int)) := by
  unfold idxF
  have : l.findIdx? (fun x => decide (x.v = (at_ l i).v)) = some i := by
    rw [List.findIdx?_eq_some_iff_getElem]
    refine ⟨hi, by rw [at_get l i hi]; simp, fun j hj => ?_⟩
    simp only [decide_eq_true_eq]
    intro e
    have := keys_inj h (i := j) (k := i) (by omega) hi (by rw [at_get l j (by omega)]; exact e)
    omega
  rw [this]; rfl
theorem idxF_none {l : List (It ByteArray)} {a : ByteArray} (h : ∀ i, i < l.length → (at_ l i).v ≠ a) : idxF l a = none := by
  unfold idxF
  have : l.findIdx? (fun x => decide (x.v = a)) = none := by
    rw [List.findIdx?_eq_none_iff]
    intro x hx
    obtain ⟨i, hi, rfl⟩ := List.getElem_of_mem hx
    have := h i hi
    rw [at_get l i hi] at this
    simpa using this
  rw [this]; rfl
theorem in_or (l : List (It ByteArray)) (a : ByteArray) : (∃ i, i < l.length ∧ (at_ l i).v = a) ∨ (∀ i, i < l.length → (at_ l i).v ≠ a) := by
  by_cases h : ∃ i, i < l.length ∧ (at_ l i).v = a
  · exact Or.inl h
  · exact Or.inr (fun i hi e => h ⟨i, hi, e⟩)
theorem keys_perm {l l' : List (It ByteArray)} (h : Keys l) (hp : l'.Perm l) : Keys l' := by
  unfold Keys at *
  exact ((hp.map (fun x : It ByteArray => x.v)).nodup_iff).2 h
theorem idxF_swap {l : List (It ByteArray)} (h : Keys l) {i k : Nat} (hi : i < l.length) (hk : k < l.length) :
    upd (upd (idxF l) (at_ l k).v (some (.int .i64 (i : Int)))) (at_ l i).v (some (.int .i64 (k : Int))) = idxF (swap l i k) := by
  have h' := keys_perm h (swap_perm l i k hi hk)
  funext a
  rcases in_or (swap l i k) a with ⟨j, hj, rfl⟩ | hn
  · rw [idxF_at h' hj]
    rw [swap_length] at hj
    rw [at_swap l i k j hi hk]
    unfold upd
    by_cases e1 : j = k
    · rw [if_pos e1, if_pos rfl, e1]
    · rw [if_neg e1]
      by_cases e2 : j = i
      · rw [if_pos e2]
        by_cases e3 : (at_ l k).v = (at_ l i).v
        · exact absurd (by rw [e2]; exact (keys_inj h hk hi e3).symm) e1
        · rw [if_neg e3, if_pos rfl, e2]
      · rw [if_neg e2, if_neg (fun e => e2 (keys_inj h hj hi e)), if_neg (fun e => e1 (keys_inj h hj hk e)), idxF_at h hj]
  · rw [idxF_none hn]
    have n1 : a ≠ (at_ l i).v := fun e => hn k (by rw [swap_length]; exact hk) (by rw [at_swap l i k k hi hk, if_pos rfl, e])
    have n2 : a ≠ (at_ l k).v := fun e => hn i (by rw [swap_length]; exact hi) (by
      rw [at_swap l i k i hi hk]
      by_cases c : i = k
      · subst c; rw [if_pos rfl, e]
      · rw [if_neg c, if_pos rfl, e])
    unfold upd
    rw [if_neg n1, if_neg n2]
    refine idxF_none (fun j hj e => ?_)
    by_cases e1 : j = k
    · subst e1; exact n2 e.symm
    · by_cases e2 : j = i
      · subst e2; exact n1 e.symm
      · exact hn j (by rw [swap_length]; exact hj) (by rw [at_swap l i k j hi hk, if_neg e1, if_neg e2]; exact e)

theorem HRep.below {w w' : World} {p : Nat} {v : Value} {B : Nat} {room : Int} {l : List (It ByteArray)} {when : Int} {f : ByteArray → Option Value} (h : HRep w p v B room l when f) (hb : Below w.heap.size w w') : HRep w' p v B room l when f := by
  have hp : p < w.heap.size := (Array.getElem?_eq_some_iff.1 h.top).1
  obtain ⟨es, clock, hm⟩ := h.map
  refine ⟨(hb.block p hp).trans h.top, ⟨h.row.1, ?_⟩, ⟨es, clock, hm.move (hb.block B hm.lt)⟩, h.good, h.few⟩
  rcases h.row.2 with h2 | ⟨g, cap, cur, h3, h4, h5, h6⟩
  · exact Or.inl h2
  · exact Or.inr ⟨g, cap, cur, h3, h4, (hb.block g (Array.getElem?_eq_some_iff.1 h5).1).trans h5, h6⟩
theorem HRep.drew {w : World} {p : Nat} {v : Value} {B : Nat} {room : Int} {l : List (It ByteArray)} {when : Int} {f : ByteArray → Option Value} (h : HRep w p v B room l when f) : HRep w.drew p v B room l when f := h.below ((Below.refl _ _).drew)

/-- exchange, as the loops use it -/
theorem swap_idx {w : World} {p : Nat} {v : Value} {B : Nat} {room : Int} {l : List (It ByteArray)} {when : Int} (h : HRep w p v B room l when (idxF l)) (hK : Keys l) (i k : Nat) (hi : i < l.length) (hk : k < l.length) :
    Calls Try.prog 108 #[.pointer (some ⟨p, 0, none⟩), .int .i64 i, .int .i64 k] w fun e w' => e = .returned (.tuple #[]) ∧
      HRep w' p v B room (swap l i k) when (idxF (swap l i k)) ∧ Hp.Touch (fun b => b = B ∨ v.ownBlock = some b) w w' := by
  refine (swap_rep h i k hi hk (by rw [idxF_at hK hi]; rfl) (by rw [idxF_at hK hk]; rfl)).mono ?_
  rw [idxF_swap hK hi hk]
  exact fun _ _ h => h

theorem rise_step {l : List (It ByteArray)} {j : Nat} (h0 : 0 < j) (hl : lt (at_ l j) (at_ l ((j - 1) / 2)) = true) : rise l j = rise (swap l j ((j - 1) / 2)) ((j - 1) / 2) := by
  rw [rise, if_neg (by omega), if_pos hl]
theorem rise_stop {l : List (It ByteArray)} {j : Nat} (hl : 0 < j → lt (at_ l j) (at_ l ((j - 1) / 2)) = false) : rise l j = l := by
  rw [rise]
  by_cases h0 : j = 0
  · rw [if_pos h0]
  · rw [if_neg h0, if_neg (by rw [hl (by omega)]; simp)]

set_option maxHeartbeats 1000000 in
theorem rise_rep {w : World} {p : Nat} {v : Value} {B : Nat} {room : Int} {l : List (It ByteArray)} {when : Int} (h : HRep w p v B room l when (idxF l)) (hK : Keys l) (i : Nat) (hi : i < l.length) :
    Calls Try.prog 95 #[.pointer (some ⟨p, 0, none⟩), .int .i64 i] w fun e w' => e = .returned (.tuple #[]) ∧
      HRep w' p v B room (rise l i) when (idxF (rise l i)) ∧ Hp.Touch (fun b => b = B ∨ v.ownBlock = some b) w w' := by
  have hfew := h.few
  go_enter Try.func95, Try.ntmps95
  go_wp2_with fail
  go_loopw [1] (fun a wr => ∃ (j : Nat) (l1 : List (It ByteArray)), a = .int .i64 (j : Int) ∧ j < l1.length ∧ Hid (HRep wr p v B room l1 when (idxF l1)) ∧ Hid (Keys l1) ∧ Hid (rise l1 j = rise l i) ∧ Hid (Hp.Touch (fun b => b = B ∨ v.ownBlock = some b) w wr) ∧ l1.length ≤ 1000) (fun a _ => (intOf a).toNat)
  case atStart => exact ⟨i, l, rfl, hi, Lib.hid h, Lib.hid hK, Lib.hid rfl, Lib.hid (Hp.Touch.refl _ _), hfew⟩
  case round =>
    obtain ⟨j, l1, rfl, hj, H1, K1, R1, T1, hn⟩ := hrel
    clear h hK
    by_cases h0 : 0 < j
    · have hp : (j - 1) / 2 < l1.length := by omega
      have e1 : ((j : Int) - 1) / 2 = (((j - 1) / 2 : Nat) : Int) := by omega
      have t0 : decide ((j : Int) > 0) = true := by simp; omega
      have b0 : (0 : Int) < (j : Int) := by omega
      obtain ⟨r, hr⟩ : ∃ r, r = lt (at_ l1 j) (at_ l1 ((j - 1) / 2)) := ⟨_, rfl⟩
      have HR := Lib.hid hr
      have E1 := Lib.hid e1
      clear hr e1
      cases r with
      | true =>
        go_wp2_with (first
          | (go_at_call 110; rw [E1.out]; refine (less_rep H1.out j ((j - 1) / 2) hj hp).mono ?_; rintro e w1 ⟨rfl, hb⟩; rw [← HR.out]; have hb' := Lib.hid hb; clear hb)
          | (go_at_call 108; rw [E1.out]; refine (swap_idx (H1.out.below hb'.out) K1.out j ((j - 1) / 2) hj hp).mono ?_; rintro e w2 ⟨rfl, hs, ht⟩; have hs' := Lib.hid hs; have ht' := Lib.hid ht; clear hs ht))
        refine ⟨⟨(j - 1) / 2, swap l1 j ((j - 1) / 2), by rw [E1.out], by rw [swap_length]; exact hp, hs', Lib.hid (keys_perm K1.out (swap_perm l1 j _ hj hp)), Lib.hid (by rw [← rise_step h0 HR.out.symm]; exact R1.out), Lib.hid ((T1.out.trans (Hp.Touch.of_below hb'.out)).trans ht'.out), by rw [swap_length]; exact hn⟩, ?_⟩
        simp [intOf]
        omega
      | false =>
        go_wp2_with (first
          | (go_at_call 110; rw [E1.out]; refine (less_rep H1.out j ((j - 1) / 2) hj hp).mono ?_; rintro e w1 ⟨rfl, hb⟩; rw [← HR.out]; have hb' := Lib.hid hb; clear hb))
        go_end0
        have e := rise_stop (l := l1) (j := j) (fun _ => HR.out.symm)
        rw [← R1.out, e]
        exact ⟨rfl, H1.out.below hb'.out, T1.out.trans (Hp.Touch.of_below hb'.out)⟩
    · have t0 : decide ((j : Int) > 0) = false := by simp; omega
      have b0 : ¬ (0 : Int) < (j : Int) := by omega
      go_wp2_with fail
      go_end0
      have e := rise_stop (l := l1) (j := j) (fun h => absurd h h0)
      rw [← R1.out, e]
      exact ⟨rfl, H1.out, T1.out⟩
end Go.Proofs.Ytpmamgdblbplcaa.Hs

/-! YtpmamgdblbplcaaHSSink -/
namespace Go.Proofs.Ytpmamgdblbplcaa.Hs
open Go.RowKit Go.Proofs.Ytpmamgdblbplcaa.Mp Go.Proofs.Ytpmamgdblbplcaa.HeapModel Go.ChangeMaps
open Go.Proofs.Ytpmamgdblbplcaa.Hp (blk_set heap_drew blk_cell blk_frozen below_drewN int_half ltN)
set_option linter.unusedVariables false
set_option linter.unusedSimpArgs false

theorem sink_step {l : List (It ByteArray)} {j k : Nat} (hk : child l j = k) (hkl : k < l.length) (hl : lt (at_ l k) (at_ l j) = true) : sink l j = sink (swap l j k) k := by
  rw [sink, hk, if_pos hkl, if_pos hl]
theorem sink_stop {l : List (It ByteArray)} {j k : Nat} (hk : child l j = k) (hl : k < l.length → lt (at_ l k) (at_ l j) = false) : sink l j = l := by
  rw [sink, hk]
  by_cases h0 : k < l.length
  · rw [if_pos h0, if_neg (by rw [hl h0]; simp)]
  · rw [if_neg h0]
theorem child_two {l : List (It ByteArray)} {j : Nat} (h : 2 * j + 2 < l.length) (hl : lt (at_ l (2 * j + 2)) (at_ l (2 * j + 1)) = true) : child l j = 2 * j + 2 := by unfold child; rw [if_pos ⟨h, hl⟩]
theorem child_one {l : List (It ByteArray)} {j : Nat} (h : 2 * j + 2 < l.length → lt (at_ l (2 * j + 2)) (at_ l (2 * j + 1)) = false) : child l j = 2 * j + 1 := by
  unfold child
  rw [if_neg]
  rintro ⟨h1, h2⟩
  rw [h h1] at h2
  cases h2

theorem less_at {w : World} {p : Nat} {v : Value} {B : Nat} {room : Int} {l : List (It ByteArray)} {when : Int} {f : ByteArray → Option Value} (h : HRep w p v B room l when f) (i k : Nat) {a b : Int} (ha : a = (i : Int)) (hb : b = (k : Int)) (hi : i < l.length) (hk : k < l.length) :
    Calls Try.prog 110 #[.pointer (some ⟨p, 0, none⟩), .int .i64 a, .int .i64 b] w fun e w' => e = .returned (.bool (lt (at_ l i) (at_ l k))) ∧ Below w.heap.size w w' := by
  subst ha hb
  exact less_rep h i k hi hk
theorem swap_at {w : World} {p : Nat} {v : Value} {B : Nat} {room : Int} {l : List (It ByteArray)} {when : Int} (h : HRep w p v B room l when (idxF l)) (hK : Keys l) (i k : Nat) {a b : Int} (ha : a = (i : Int)) (hb : b = (k : Int)) (hi : i < l.length) (hk : k < l.length) :
    Calls Try.prog 108 #[.pointer (some ⟨p, 0, none⟩), .int .i64 a, .int .i64 b] w fun e w' => e = .returned (.tuple #[]) ∧
      HRep w' p v B room (swap l i k) when (idxF (swap l i k)) ∧ Hp.Touch (fun b => b = B ∨ v.ownBlock = some b) w w' := by
  subst ha hb
  exact swap_idx h hK i k hi hk

set_option maxHeartbeats 2000000 in
theorem sink_rep {w : World} {p g cap : Nat} {B : Nat} {room : Int} {l : List (It ByteArray)} {when : Int} (h : HRep w p (.slice (some ⟨g, 0, none⟩) l.length cap) B room l when (idxF l)) (hK : Keys l) (i : Nat) (hi : i < l.length) :
    Calls Try.prog 109 #[.pointer (some ⟨p, 0, none⟩), .int .i64 i] w fun e w' => e = .returned (.tuple #[]) ∧
      HRep w' p (.slice (some ⟨g, 0, none⟩) l.length cap) B room (sink l i) when (idxF (sink l i)) ∧ Hp.Touch (fun b => b = B ∨ b = g) w w' := by
  have hfew := h.few
  obtain ⟨n, hn⟩ : ∃ n, n = l.length := ⟨_, rfl⟩
  rw [← hn] at h hi hfew ⊢
  have hS : ∀ b, (b = B ∨ (Value.slice (some ⟨g, 0, none⟩) n cap).ownBlock = some b) → (b = B ∨ b = g) := by
    rintro b (h1 | h1)
    · exact Or.inl h1
    · exact Or.inr (by simpa [Value.ownBlock] using h1.symm)
  have HS := Lib.hid hS
  have HN := Lib.hid hn
  clear hS hn
  go_enter Try.func109, Try.ntmps109
  go_wp2_with fail
  go_loopw [1] (fun a wr => ∃ (j : Nat) (l1 : List (It ByteArray)), a = .int .i64 (j : Int) ∧ j < n ∧ Hid (l1.length = n) ∧ Hid (HRep wr p (.slice (some ⟨g, 0, none⟩) n cap) B room l1 when (idxF l1)) ∧ Hid (Keys l1) ∧ Hid (sink l1 j = sink l i) ∧ Hid (Hp.Touch (fun b => b = B ∨ b = g) w wr)) (fun a _ => n - (intOf a).toNat)
  case atStart => exact ⟨i, l, rfl, hi, Lib.hid HN.out.symm, Lib.hid h, Lib.hid hK, Lib.hid rfl, Lib.hid (Hp.Touch.refl _ _)⟩
  case round =>
    obtain ⟨j, l1, rfl, hj, L1, H1, K1, R1, T1⟩ := hrel
    clear h hK
    have hj1 : j < l1.length := by rw [L1.out]; exact hj
    have c0 := (blk_cell H1.out.top 1).trans (rfl : _ = some (Value.slice (some ⟨g, 0, none⟩) n cap))
    by_cases h2 : 2 * j + 2 < n
    · have h2' : 2 * j + 2 < l1.length := by rw [L1.out]; exact h2
      have hk1 : 2 * j + 1 < l1.length := by omega
      obtain ⟨r, hr⟩ : ∃ r, r = lt (at_ l1 (2 * j + 2)) (at_ l1 (2 * j + 1)) := ⟨_, rfl⟩
      have HR := Lib.hid hr
      clear hr
      have i2 : (2 * (j : Int) + 1 + 1) < (n : Int) := by omega
      have E1 : Hid ((2 * (j : Int) + 1 + 1) = ((2 * j + 2 : Nat) : Int)) := Lib.hid (by omega)
      have E2 : Hid ((2 * (j : Int) + 1) = ((2 * j + 1 : Nat) : Int)) := Lib.hid (by omega)
      cases r with
      | true =>
        have i3 : ¬ (2 * (j : Int) + 2 ≥ (n : Int)) := by omega
        have hkl : 2 * j + 2 < l1.length := by rw [L1.out]; omega
        obtain ⟨r2, hr2⟩ : ∃ r2, r2 = lt (at_ l1 (2 * j + 2)) (at_ l1 j) := ⟨_, rfl⟩
        have HR2 := Lib.hid hr2
        clear hr2
        cases r2 with
        | true =>
          go_wp2_with (first | (go_at_call 110; refine Calls.mono (less_at H1.out (2 * j + 2) (2 * j + 1) ?_ ?_ h2' hk1) ?_; { omega }; { omega }; rintro e w1 ⟨rfl, hb⟩; rw [← HR.out]; have hb' := Lib.hid hb; have c1 := (blk_cell (H1.out.below hb'.out).top 1).trans (rfl : _ = some (Value.slice (some ⟨g, 0, none⟩) n cap)); clear hb) | (go_at_call 110; refine Calls.mono (less_at (H1.out.below hb'.out) (2 * j + 2) j ?_ ?_ hkl hj1) ?_; { omega }; { rfl }; rintro e w2 ⟨rfl, hq⟩; rw [← HR2.out]; have hq' := Lib.hid hq; have c2 := (blk_cell ((H1.out.below hb'.out).below hq'.out).top 1).trans (rfl : _ = some (Value.slice (some ⟨g, 0, none⟩) n cap)); clear hq) | (go_at_call 108; refine Calls.mono (swap_at ((H1.out.below hb'.out).below hq'.out) K1.out j (2 * j + 2) ?_ ?_ hj1 hkl) ?_; { rfl }; { omega }; rintro e w3 ⟨rfl, hs, ht⟩; have hs' := Lib.hid hs; have ht' := Lib.hid ht; clear hs ht))
          refine ⟨⟨2 * j + 2, swap l1 j (2 * j + 2), by go_num, by omega, Lib.hid (by rw [swap_length]; exact L1.out), hs', Lib.hid (keys_perm K1.out (swap_perm l1 j _ (by omega) hkl)), Lib.hid (by rw [← sink_step (child_two h2' HR.out.symm) hkl HR2.out.symm]; exact R1.out), Lib.hid (((T1.out.trans (Hp.Touch.of_below hb'.out)).trans (Hp.Touch.of_below hq'.out)).trans (ht'.out.mono (fun k _ hk => HS.out k hk)))⟩, ?_⟩
          simp [intOf]
          omega
        | false =>
          go_wp2_with (first | (go_at_call 110; refine Calls.mono (less_at H1.out (2 * j + 2) (2 * j + 1) ?_ ?_ h2' hk1) ?_; { omega }; { omega }; rintro e w1 ⟨rfl, hb⟩; rw [← HR.out]; have hb' := Lib.hid hb; have c1 := (blk_cell (H1.out.below hb'.out).top 1).trans (rfl : _ = some (Value.slice (some ⟨g, 0, none⟩) n cap)); clear hb) | (go_at_call 110; refine Calls.mono (less_at (H1.out.below hb'.out) (2 * j + 2) j ?_ ?_ hkl hj1) ?_; { omega }; { rfl }; rintro e w2 ⟨rfl, hq⟩; rw [← HR2.out]; have hq' := Lib.hid hq; have c2 := (blk_cell ((H1.out.below hb'.out).below hq'.out).top 1).trans (rfl : _ = some (Value.slice (some ⟨g, 0, none⟩) n cap)); clear hq))
          refine bodyPost_ret (v := .tuple #[]) (by simp [results, Try.results109, go_sem]) rfl ?_
          rw [← R1.out, sink_stop (child_two h2' HR.out.symm) (fun _ => HR2.out.symm)]
          exact ⟨rfl, (H1.out.below hb'.out).below hq'.out, (T1.out.trans (Hp.Touch.of_below hb'.out)).trans (Hp.Touch.of_below hq'.out)⟩
      | false =>
        have i3 : ¬ (2 * (j : Int) + 1 ≥ (n : Int)) := by omega
        have hkl : 2 * j + 1 < l1.length := by rw [L1.out]; omega
        obtain ⟨r2, hr2⟩ : ∃ r2, r2 = lt (at_ l1 (2 * j + 1)) (at_ l1 j) := ⟨_, rfl⟩
        have HR2 := Lib.hid hr2
        clear hr2
        cases r2 with
        | true =>
          go_wp2_with (first | (go_at_call 110; refine Calls.mono (less_at H1.out (2 * j + 2) (2 * j + 1) ?_ ?_ h2' hk1) ?_; { omega }; { omega }; rintro e w1 ⟨rfl, hb⟩; rw [← HR.out]; have hb' := Lib.hid hb; have c1 := (blk_cell (H1.out.below hb'.out).top 1).trans (rfl : _ = some (Value.slice (some ⟨g, 0, none⟩) n cap)); clear hb) | (go_at_call 110; refine Calls.mono (less_at (H1.out.below hb'.out) (2 * j + 1) j ?_ ?_ hkl hj1) ?_; { omega }; { rfl }; rintro e w2 ⟨rfl, hq⟩; rw [← HR2.out]; have hq' := Lib.hid hq; have c2 := (blk_cell ((H1.out.below hb'.out).below hq'.out).top 1).trans (rfl : _ = some (Value.slice (some ⟨g, 0, none⟩) n cap)); clear hq) | (go_at_call 108; refine Calls.mono (swap_at ((H1.out.below hb'.out).below hq'.out) K1.out j (2 * j + 1) ?_ ?_ hj1 hkl) ?_; { rfl }; { omega }; rintro e w3 ⟨rfl, hs, ht⟩; have hs' := Lib.hid hs; have ht' := Lib.hid ht; clear hs ht))
          refine ⟨⟨2 * j + 1, swap l1 j (2 * j + 1), by go_num, by omega, Lib.hid (by rw [swap_length]; exact L1.out), hs', Lib.hid (keys_perm K1.out (swap_perm l1 j _ (by omega) hkl)), Lib.hid (by rw [← sink_step (child_one (fun _ => HR.out.symm)) hkl HR2.out.symm]; exact R1.out), Lib.hid (((T1.out.trans (Hp.Touch.of_below hb'.out)).trans (Hp.Touch.of_below hq'.out)).trans (ht'.out.mono (fun k _ hk => HS.out k hk)))⟩, ?_⟩
          simp [intOf]
          omega
        | false =>
          go_wp2_with (first | (go_at_call 110; refine Calls.mono (less_at H1.out (2 * j + 2) (2 * j + 1) ?_ ?_ h2' hk1) ?_; { omega }; { omega }; rintro e w1 ⟨rfl, hb⟩; rw [← HR.out]; have hb' := Lib.hid hb; have c1 := (blk_cell (H1.out.below hb'.out).top 1).trans (rfl : _ = some (Value.slice (some ⟨g, 0, none⟩) n cap)); clear hb) | (go_at_call 110; refine Calls.mono (less_at (H1.out.below hb'.out) (2 * j + 1) j ?_ ?_ hkl hj1) ?_; { omega }; { rfl }; rintro e w2 ⟨rfl, hq⟩; rw [← HR2.out]; have hq' := Lib.hid hq; have c2 := (blk_cell ((H1.out.below hb'.out).below hq'.out).top 1).trans (rfl : _ = some (Value.slice (some ⟨g, 0, none⟩) n cap)); clear hq))
          refine bodyPost_ret (v := .tuple #[]) (by simp [results, Try.results109, go_sem]) rfl ?_
          rw [← R1.out, sink_stop (child_one (fun _ => HR.out.symm)) (fun _ => HR2.out.symm)]
          exact ⟨rfl, (H1.out.below hb'.out).below hq'.out, (T1.out.trans (Hp.Touch.of_below hb'.out)).trans (Hp.Touch.of_below hq'.out)⟩
    · have i2 : ¬ (2 * (j : Int) + 1 + 1) < (n : Int) := by omega
      have HC : child l1 j = 2 * j + 1 := child_one (fun h => absurd h (by rw [L1.out]; exact h2))
      have HCc := Lib.hid HC
      clear HC
      have E2 : Hid ((2 * (j : Int) + 1) = ((2 * j + 1 : Nat) : Int)) := Lib.hid (by omega)
      by_cases h3 : 2 * j + 1 < n
      · have i3 : ¬ (2 * (j : Int) + 1 ≥ (n : Int)) := by omega
        have hkl : 2 * j + 1 < l1.length := by rw [L1.out]; omega
        obtain ⟨r2, hr2⟩ : ∃ r2, r2 = lt (at_ l1 (2 * j + 1)) (at_ l1 j) := ⟨_, rfl⟩
        have HR2 := Lib.hid hr2
        clear hr2
        cases r2 with
        | true =>
          go_wp2_with (first | (go_at_call 110; refine Calls.mono (less_at H1.out (2 * j + 1) j ?_ ?_ hkl hj1) ?_; { omega }; { rfl }; rintro e w2 ⟨rfl, hq⟩; rw [← HR2.out]; have hq' := Lib.hid hq; have c2 := (blk_cell (H1.out.below hq'.out).top 1).trans (rfl : _ = some (Value.slice (some ⟨g, 0, none⟩) n cap)); clear hq) | (go_at_call 108; refine Calls.mono (swap_at (H1.out.below hq'.out) K1.out j (2 * j + 1) ?_ ?_ hj1 hkl) ?_; { rfl }; { omega }; rintro e w3 ⟨rfl, hs, ht⟩; have hs' := Lib.hid hs; have ht' := Lib.hid ht; clear hs ht))
          refine ⟨⟨2 * j + 1, swap l1 j (2 * j + 1), by go_num, by omega, Lib.hid (by rw [swap_length]; exact L1.out), hs', Lib.hid (keys_perm K1.out (swap_perm l1 j _ (by omega) hkl)), Lib.hid (by rw [← sink_step HCc.out hkl HR2.out.symm]; exact R1.out), Lib.hid ((T1.out.trans (Hp.Touch.of_below hq'.out)).trans (ht'.out.mono (fun k _ hk => HS.out k hk)))⟩, ?_⟩
          simp [intOf]
          omega
        | false =>
          go_wp2_with (first | (go_at_call 110; refine Calls.mono (less_at H1.out (2 * j + 1) j ?_ ?_ hkl hj1) ?_; { omega }; { rfl }; rintro e w2 ⟨rfl, hq⟩; rw [← HR2.out]; have hq' := Lib.hid hq; have c2 := (blk_cell (H1.out.below hq'.out).top 1).trans (rfl : _ = some (Value.slice (some ⟨g, 0, none⟩) n cap)); clear hq))
          refine bodyPost_ret (v := .tuple #[]) (by simp [results, Try.results109, go_sem]) rfl ?_
          rw [← R1.out, sink_stop HCc.out (fun _ => HR2.out.symm)]
          exact ⟨rfl, H1.out.below hq'.out, T1.out.trans (Hp.Touch.of_below hq'.out)⟩
      · have i3 : (2 * (j : Int) + 1 ≥ (n : Int)) := by omega
        go_wp2_with fail
        refine bodyPost_ret (v := .tuple #[]) (by simp [results, Try.results109, go_sem]) rfl ?_
        rw [← R1.out, sink_stop HCc.out (fun h => absurd h (by rw [L1.out]; exact h3))]
        exact ⟨rfl, H1.out, T1.out⟩
end Go.Proofs.Ytpmamgdblbplcaa.Hs

/-! YtpmamgdblbplcaaHSDrop -/
namespace Go.Proofs.Ytpmamgdblbplcaa.Hs
open Go.RowKit Go.Proofs.Ytpmamgdblbplcaa.Mp Go.Proofs.Ytpmamgdblbplcaa.HeapModel Go.ChangeMaps
open Go.Proofs.Ytpmamgdblbplcaa.Hp (blk_set heap_drew blk_cell blk_frozen below_drewN int_half ltN)
set_option linter.unusedVariables false
set_option linter.unusedSimpArgs false

theorem at_dropLast (l : List (It ByteArray)) (j : Nat) (hj : j < l.length - 1) : at_ l.dropLast j = at_ l j := by
  rw [at_get _ _ (by rw [List.length_dropLast]; exact hj), at_get _ _ (by omega), List.getElem_dropLast]
theorem idxF_dropLast {l : List (It ByteArray)} (h : Keys l) {m : Nat} (hm : l.length = m + 1) : upd (idxF l) (at_ l m).v none = idxF l.dropLast := by
  have h' : Keys l.dropLast := by
    unfold Keys at *
    exact h.sublist ((List.dropLast_sublist l).map _)
  have hl : l.dropLast.length = m := by rw [List.length_dropLast]; omega
  funext a
  unfold upd
  rcases in_or l.dropLast a with ⟨j, hj, rfl⟩ | hn
  · rw [idxF_at h' hj]
    rw [hl] at hj
    rw [at_dropLast l j (by omega), if_neg (fun e => by have := keys_inj h (by omega) (by omega) e; omega), idxF_at h (by omega)]
  · rw [idxF_none hn]
    by_cases e : a = (at_ l m).v
    · rw [if_pos e]
    · rw [if_neg e]
      refine idxF_none (fun j hj e2 => ?_)
      by_cases c : j = m
      · subst c; exact e e2.symm
      · exact hn j (by omega) (by rw [at_dropLast l j (by omega)]; exact e2)
theorem cellsOf_dropLast (l : List (It ByteArray)) (m : Nat) (hm : l.length = m + 1) : cellsOf l.dropLast = (cellsOf l).take (m * 4) := by
  have : l = l.dropLast ++ [l.getLast (by intro e; rw [e] at hm; simp at hm)] := (List.dropLast_concat_getLast _).symm
  have hl : l.dropLast.length = m := by rw [List.length_dropLast]; omega
  have e : cellsOf l = cellsOf l.dropLast ++ ic (l.getLast (by intro e; rw [e] at hm; simp at hm)) := by
    rw (occs := [1]) [this]
    unfold cellsOf
    rw [List.flatMap_append]; simp
  rw [e, List.take_append_of_le_length (by rw [cellsOf_length, hl]; exact Nat.le_refl _), List.take_of_length_le (by rw [cellsOf_length, hl]; exact Nat.le_refl _)]

/-- one less: the slice is cut, the key struck -/
theorem HRep.shrink {w : World} {p g cap B : Nat} {room : Int} {l : List (It ByteArray)} {when : Int} {m : Nat} (hm : l.length = m + 1) (h : HRep w p (.slice (some ⟨g, 0, none⟩) (m + 1) cap) B room l when (idxF l)) (hK : Keys l) :
    ∃ es' clock, (∀ ty, (Builtin.delete_ #[119, 9] ty #[.map (some B), .string (at_ l m).v]).run Try.prog (w.setCell ⟨p, 1, none⟩ (.slice (some ⟨g, 0, none⟩) m cap)) = .ok (.tuple #[]) (setBlock (w.setCell ⟨p, 1, none⟩ (.slice (some ⟨g, 0, none⟩) m cap)) B (.map es' clock))) ∧
      HRep (setBlock (w.setCell ⟨p, 1, none⟩ (.slice (some ⟨g, 0, none⟩) m cap)) B (.map es' clock)) p (.slice (some ⟨g, 0, none⟩) m cap) B room l.dropLast when (idxF l.dropLast) := by
  obtain ⟨g', cap', cur, hv, hg, hn, hc, hs, ht, hgp, hgB⟩ := h.open_row (by omega)
  obtain ⟨es, clock, hmap⟩ := h.map
  have hpB := h.ne_map
  simp only [Value.slice.injEq, Option.some.injEq, Addr.mk.injEq, and_true] at hv
  obtain ⟨rfl, hlen, rfl⟩ := hv
  have gm : at_ l m ∈ l := by rw [at_get l m (by omega)]; exact List.getElem_mem _
  have hm1 : MRep Try.prog 9 Value.string (w.setCell ⟨p, 1, none⟩ (.slice (some ⟨g, 0, none⟩) m cap)) B es clock (idxF l) := hmap.move (Below.heap_setCell _ _ _ B (fun e => hpB e.symm))
  obtain ⟨es', hd⟩ : ∃ es', ∀ ty, (Builtin.delete_ #[119, 9] ty #[.map (some B), .string (at_ l m).v]).run Try.prog (w.setCell ⟨p, 1, none⟩ (.slice (some ⟨g, 0, none⟩) m cap)) = .ok (.tuple #[]) (setBlock (w.setCell ⟨p, 1, none⟩ (.slice (some ⟨g, 0, none⟩) m cap)) B (.map es' clock)) ∧
      MRep Try.prog 9 Value.string (setBlock (w.setCell ⟨p, 1, none⟩ (.slice (some ⟨g, 0, none⟩) m cap)) B (.map es' clock)) B es' clock (upd (idxF l) (at_ l m).v none) := by
    obtain ⟨es', h1, h2⟩ := hm1.drop (ty := 0) keyed Try.underlying119 str_inj (Go.WideMaps.keyOf_string_mk Try.underlying9 (h.good _ gm))
    exact ⟨es', fun ty => ⟨h1, h2⟩⟩
  refine ⟨es', clock, fun ty => (hd ty).1, ?_⟩
  have hm3 := (hd 0).2
  rw [idxF_dropLast hK hm] at hm3
  have hl : l.dropLast.length = m := by rw [List.length_dropLast]; omega
  refine ⟨?_, ⟨?_, Or.inr ⟨g, cap, cur, ?_, Nat.zero_le _, ?_, ?_, hc, hs, ?_⟩⟩, ⟨es', clock, hm3⟩, ?_, ?_⟩
  · rw [heap_setBlock_ne _ _ _ _ hpB, blk_set h.top]; rfl
  · rw [cellsOf_length, hl]
  · rw [hl]
  · rw [heap_setBlock_ne _ _ _ _ hgB, Below.heap_setCell _ _ _ g hgp]; exact hg
  · omega
  · rw [hl, cellsOf_dropLast l m hm, ← ht, List.take_take, Nat.min_eq_left (by omega)]
  · exact fun x hx => h.good x ((List.dropLast_sublist l).subset hx)
  · have := h.few; omega

def dropM (l : List (It ByteArray)) (a : ByteArray) : List (It ByteArray) × Bool := match l.findIdx? (fun x => decide (x.v = a)) with
  | none => (l, false)
  | some i => (if i < l.length - 1 then sink (rise (swap l i (l.length - 1)).dropLast i) i else (swap l i (l.length - 1)).dropLast, true)
theorem dropM_none {l : List (It ByteArray)} {a : ByteArray} (h : ∀ i, i < l.length → (at_ l i).v ≠ a) : dropM l a = (l, false) := by
  unfold dropM
  have : l.findIdx? (fun x => decide (x.v = a)) = none := by
    rw [List.findIdx?_eq_none_iff]
    intro x hx
    obtain ⟨i, hi, rfl⟩ := List.getElem_of_mem hx
    have := h i hi
    rw [at_get l i hi] at this
    simpa using this
  rw [this]
theorem dropM_some {l : List (It ByteArray)} (h : Keys l) {i : Nat} (hi : i < l.length) : dropM l (at_ l i).v = (if i < l.length - 1 then sink (rise (swap l i (l.length - 1)).dropLast i) i else (swap l i (l.length - 1)).dropLast, true) := by
  unfold dropM
  have e := idxF_at h hi
  unfold idxF at e
  cases c : l.findIdx? (fun x => decide (x.v = (at_ l i).v)) with
  | none => rw [c] at e; cases e
  | some j =>
    rw [c] at e
    have e2 : Value.int .i64 (j : Int) = Value.int .i64 (i : Int) := Option.some.inj e
    have e3 : (j : Int) = (i : Int) := int_inj _ _ e2
    have e4 : j = i := by omega
    subst e4
    rfl
theorem rise_at {w : World} {p : Nat} {v : Value} {B : Nat} {room : Int} {l : List (It ByteArray)} {when : Int} (h : HRep w p v B room l when (idxF l)) (hK : Keys l) (i : Nat) {a : Int} (ha : a = (i : Int)) (hi : i < l.length) :
    Calls Try.prog 95 #[.pointer (some ⟨p, 0, none⟩), .int .i64 a] w fun e w' => e = .returned (.tuple #[]) ∧
      HRep w' p v B room (rise l i) when (idxF (rise l i)) ∧ Hp.Touch (fun b => b = B ∨ v.ownBlock = some b) w w' := by
  subst ha
  exact rise_rep h hK i hi

theorem sink_at {w : World} {p g cap : Nat} {B : Nat} {room : Int} {l : List (It ByteArray)} {when : Int} {n : Nat} (hn : l.length = n) (h : HRep w p (.slice (some ⟨g, 0, none⟩) n cap) B room l when (idxF l)) (hK : Keys l) (i : Nat) {a : Int} (ha : a = (i : Int)) (hi : i < l.length) :
    Calls Try.prog 109 #[.pointer (some ⟨p, 0, none⟩), .int .i64 a] w fun e w' => e = .returned (.tuple #[]) ∧
      HRep w' p (.slice (some ⟨g, 0, none⟩) n cap) B room (sink l i) when (idxF (sink l i)) ∧ Hp.Touch (fun b => b = B ∨ b = g) w w' := by
  subst ha hn
  exact sink_rep h hK i hi

set_option maxHeartbeats 2000000 in
set_option maxRecDepth 100000 in
theorem drop_rep {w : World} {p : Nat} {v : Value} {B : Nat} {room : Int} {l : List (It ByteArray)} {when : Int} (h : HRep w p v B room l when (idxF l)) (hK : Keys l) (a : ByteArray) (ha : fits a) :
    Calls Try.prog 94 #[.pointer (some ⟨p, 0, none⟩), .string a] w fun e w' => e = .returned (.bool (dropM l a).2) ∧
      ∃ v', HRep w' p v' B room (dropM l a).1 when (idxF (dropM l a).1) ∧ Hp.Touch (fun b => b = p ∨ b = B ∨ v.ownBlock = some b) w w' ∧ v'.ownBlock = v.ownBlock := by
  have hz : (zeroValue 3).run Try.prog w = .ok (.int .i64 0) w := by kernel_rfl
  obtain ⟨es, clock, hmap⟩ := h.map
  have hlook := hmap.look keyed Try.underlying119 hz (Go.WideMaps.keyOf_string_mk Try.underlying9 ha) true
  have c1 := (blk_cell h.top 1).trans (rfl : _ = some v)
  have c2 := (blk_cell h.top 2).trans (rfl : _ = some (Value.map (some B)))
  rcases in_or l a with ⟨i, hi, rfl⟩ | hn
  · rw [idxF_at hK hi] at hlook
    simp only [if_true, Option.getD_some, Option.isSome_some] at hlook
    obtain ⟨m, hm⟩ : ∃ m, l.length = m + 1 := ⟨l.length - 1, by omega⟩
    obtain ⟨g, cap, cur, hv, hg, hn, hc, hs, ht, hgp, hgB⟩ := h.open_row (by omega)
    have D := Lib.hid (dropM_some hK hi)
    rw [hm] at hv D hi
    subst hv
    have hi' : (i : Int) < (m : Int) + 1 := by omega
    have hfew := h.few
    rw [hm] at hfew
    have hmc : m ≤ cap := by omega
    have HM := Lib.hid hm
    have HH := Lib.hid h
    have HK := Lib.hid hK
    have hS : ∀ b, (b = B ∨ (Value.slice (some ⟨g, 0, none⟩) (m + 1) cap).ownBlock = some b) → (b = p ∨ b = B ∨ (Value.slice (some ⟨g, 0, none⟩) (m + 1) cap).ownBlock = some b) := fun b hb => Or.inr hb
    have HS := Lib.hid hS
    clear hm h hK hg hn hc hs ht hmap hS
    go_enter Try.func94, Try.ntmps94
    have HL : Hid ((swap l i m).dropLast.length = m) := Lib.hid (by rw [List.length_dropLast, swap_length, HM.out]; omega)
    by_cases him : i < m
    · have him' : (i : Int) < (m : Int) := by omega
      have HI : Hid ((swap l i m).dropLast.length = m ∧ i < (swap l i m).dropLast.length) := Lib.hid ⟨HL.out, by rw [HL.out]; exact him⟩
      go_wp2_with (first
        | (go_at_call 108; refine Calls.mono (swap_at HH.out HK.out i m ?_ ?_ (by rw [HM.out]; omega) (by rw [HM.out]; omega)) ?_; { rfl }; { omega }; rintro e w1 ⟨rfl, hs, ht⟩; have T1 := Lib.hid ht; have hb1 := HH.out.ne_map; have K1 := keys_perm HK.out (swap_perm l i m (by rw [HM.out]; omega) (by rw [HM.out]; omega)); obtain ⟨es3, cl3, hdel, hs3⟩ := HRep.shrink (m := m) (by rw [swap_length]; exact HM.out) hs K1; rw [at_swap l i m m (by rw [HM.out]; omega) (by rw [HM.out]; omega), if_pos rfl] at hdel; have T3 := Lib.hid (((Hp.Touch.refl (fun b => b = p ∨ b = B ∨ (Value.slice (some ⟨g, 0, none⟩) (m + 1) cap).ownBlock = some b) w1).setCell (p := ⟨p, 1, none⟩) (Or.inl rfl) (.slice (some ⟨g, 0, none⟩) m cap)).setBlock (Or.inr (Or.inl rfl)) (.map es3 cl3)); have HS3 := Lib.hid hs3; have K3 := Lib.hid (show Keys (swap l i m).dropLast from K1.sublist ((List.dropLast_sublist _).map _)); have d1 := (blk_cell hs.top 1).trans (rfl : _ = some (Value.slice (some ⟨g, 0, none⟩) (m + 1) cap)); have f1 := blk_frozen hs.top 1; have d2 := (blk_cell hs.top 2).trans (rfl : _ = some (Value.map (some B))); have d3 : (w1.setCell ⟨p, 1, none⟩ (.slice (some ⟨g, 0, none⟩) m cap)).cell? ⟨p, 2, none⟩ = some (Value.map (some B)) := (blk_cell (blk_set hs.top 1 _) 2).trans rfl; clear hs ht hs3 K1 hb1)
        | (go_at_call 95; refine Calls.mono (rise_at HS3.out K3.out i ?_ HI.out.2) ?_; { rfl }; rintro e w4 ⟨rfl, hs, ht⟩; have HS4 := Lib.hid hs; have T4 := Lib.hid ht; clear hs ht)
        | (go_at_call 109; refine Calls.mono (sink_at (by rw [rise_length _ _ HI.out.2]; exact HI.out.1) HS4.out (keys_perm K3.out (rise_perm _ _ HI.out.2)) i ?_ (by rw [rise_length _ _ HI.out.2]; exact HI.out.2)) ?_; { rfl }; rintro e w5 ⟨rfl, hs, ht⟩; have HS5 := Lib.hid hs; have T5 := Lib.hid ht; clear hs ht))
      go_ret
      refine ⟨by rw [D.out]; rfl, .slice (some ⟨g, 0, none⟩) m cap, ?_, ?_, rfl⟩
      · rw [D.out]
        simp only [Nat.add_sub_cancel, if_pos him]
        exact HS5.out
      · exact ((((T1.out.mono (fun b _ hb => HS.out b hb)).trans T3.out).trans (T4.out.mono (fun b _ hb => HS.out b hb))).trans (T5.out.mono (fun b _ hb => HS.out b (hb.imp id (fun e => by rw [e]; rfl)))))
    · have him' : ¬ (i : Int) < (m : Int) := by omega
      go_wp2_with (first
        | (go_at_call 108; refine Calls.mono (swap_at HH.out HK.out i m ?_ ?_ (by rw [HM.out]; omega) (by rw [HM.out]; omega)) ?_; { rfl }; { omega }; rintro e w1 ⟨rfl, hs, ht⟩; have T1 := Lib.hid ht; have hb1 := HH.out.ne_map; have K1 := keys_perm HK.out (swap_perm l i m (by rw [HM.out]; omega) (by rw [HM.out]; omega)); obtain ⟨es3, cl3, hdel, hs3⟩ := HRep.shrink (m := m) (by rw [swap_length]; exact HM.out) hs K1; rw [at_swap l i m m (by rw [HM.out]; omega) (by rw [HM.out]; omega), if_pos rfl] at hdel; have T3 := Lib.hid (((Hp.Touch.refl (fun b => b = p ∨ b = B ∨ (Value.slice (some ⟨g, 0, none⟩) (m + 1) cap).ownBlock = some b) w1).setCell (p := ⟨p, 1, none⟩) (Or.inl rfl) (.slice (some ⟨g, 0, none⟩) m cap)).setBlock (Or.inr (Or.inl rfl)) (.map es3 cl3)); have HS3 := Lib.hid hs3; have K3 := Lib.hid (show Keys (swap l i m).dropLast from K1.sublist ((List.dropLast_sublist _).map _)); have d1 := (blk_cell hs.top 1).trans (rfl : _ = some (Value.slice (some ⟨g, 0, none⟩) (m + 1) cap)); have f1 := blk_frozen hs.top 1; have d2 := (blk_cell hs.top 2).trans (rfl : _ = some (Value.map (some B))); have d3 : (w1.setCell ⟨p, 1, none⟩ (.slice (some ⟨g, 0, none⟩) m cap)).cell? ⟨p, 2, none⟩ = some (Value.map (some B)) := (blk_cell (blk_set hs.top 1 _) 2).trans rfl; clear hs ht hs3 K1 hb1))
      go_ret
      refine ⟨by rw [D.out]; rfl, .slice (some ⟨g, 0, none⟩) m cap, ?_, ?_, rfl⟩
      · rw [D.out]
        simp only [Nat.add_sub_cancel, if_neg him]
        exact HS3.out
      · exact (T1.out.mono (fun b _ hb => HS.out b hb)).trans T3.out
  · rw [idxF_none hn] at hlook
    simp only [if_true, Option.getD_none, Option.isSome_none] at hlook
    have D := Lib.hid (dropM_none hn)
    clear hn
    go_enter Try.func94, Try.ntmps94
    go_wp2
    go_ret
    exact ⟨by rw [D.out]; rfl, v, by rw [D.out]; exact h, Hp.Touch.refl _ _, rfl⟩
end Go.Proofs.Ytpmamgdblbplcaa.Hs

/-! YtpmamgdblbplcaaHSPut -/
namespace Go.Proofs.Ytpmamgdblbplcaa.Hs
open Go.RowKit Go.Proofs.Ytpmamgdblbplcaa.Mp Go.Proofs.Ytpmamgdblbplcaa.HeapModel Go.ChangeMaps
open Go.Proofs.Ytpmamgdblbplcaa.Hp (blk_set heap_drew blk_cell blk_frozen below_drewN int_half ltN)
set_option linter.unusedVariables false
set_option linter.unusedSimpArgs false

theorem info128 : (Try.prog.info? 128).map (fun i => (i.zero, i.size, i.bytes)) = some (some (.agg #[.string ByteArray.empty, .int .i64 0, .int .i64 0, .int .i64 0]), 4, 40) := by kernel_rfl

/-- the time goes on -/
theorem HRep.tick {w : World} {p : Nat} {v : Value} {B : Nat} {room : Int} {l : List (It ByteArray)} {when : Int} {f : ByteArray → Option Value} (h : HRep w p v B room l when f) (t : Int) : HRep (w.setCell ⟨p, 3, none⟩ (.int .i64 t)) p v B room l t f := by
  have hpB := h.ne_map
  obtain ⟨es, clock, hm⟩ := h.map
  refine ⟨by rw [blk_set h.top]; rfl, ⟨h.row.1, ?_⟩, ⟨es, clock, hm.move (Below.heap_setCell _ _ _ B (fun e => hpB e.symm))⟩, h.good, h.few⟩
  rcases h.row.2 with h2 | ⟨g, cap, cur, h3, h4, h5, h6⟩
  · exact Or.inl h2
  · refine Or.inr ⟨g, cap, cur, h3, h4, ?_, h6⟩
    rw [Below.heap_setCell]
    · exact h5
    · rintro rfl
      rw [h.top] at h5
      injection h5 with h5
      injection h5 with _ h5
      cases h5
theorem HRep.store {w : World} {p : Nat} {v : Value} {B : Nat} {room : Int} {l : List (It ByteArray)} {when : Int} {f : ByteArray → Option Value} (h : HRep w p v B room l when f) (a : ByteArray) (ha : fits a) (val : Value) :
    ∃ o, (Instr.mapUpdate 119 (.map (some B)) (.string a) val).run Try.prog w = .ok () (setBlock w B o) ∧ HRep (setBlock w B o) p v B room l when (upd f a (some val)) := by
  have hpB := h.ne_map
  obtain ⟨es, clock, hm⟩ := h.map
  obtain ⟨es', clock', h1, h2⟩ := hm.store keyed Try.underlying119 str_inj (Go.WideMaps.keyOf_string_mk Try.underlying9 ha) val
  refine ⟨_, h1, by rw [heap_setBlock_ne _ _ _ _ hpB]; exact h.top, ⟨h.row.1, ?_⟩, ⟨es', clock', h2⟩, h.good, h.few⟩
  rcases h.row.2 with h3 | ⟨g, cap, cur, h3, h4, h5, h6⟩
  · exact Or.inl h3
  · refine Or.inr ⟨g, cap, cur, h3, h4, ?_, h6⟩
    rw [heap_setBlock_ne]
    · exact h5
    · rintro rfl
      rw [hm.blk] at h5
      cases h5
theorem idxF_append {l : List (It ByteArray)} {x : It ByteArray} (h : Keys (l ++ [x])) : upd (idxF l) x.v (some (.int .i64 (l.length : Int))) = idxF (l ++ [x]) := by
  have h' : Keys l := by
    unfold Keys at *
    exact h.sublist ((List.sublist_append_left l [x]).map _)
  have hx : at_ (l ++ [x]) l.length = x := by rw [at_get _ _ (by simp)]; simp
  have hl : ∀ j, j < l.length → at_ (l ++ [x]) j = at_ l j := fun j hj => by rw [at_get _ _ (by simp; omega), at_get _ _ hj, List.getElem_append_left hj]
  funext a
  unfold upd
  rcases in_or (l ++ [x]) a with ⟨j, hj, rfl⟩ | hn
  · rw [idxF_at h hj]
    by_cases c : j < l.length
    · rw [if_neg (fun e => by have := keys_inj h hj (k := l.length) (by simp) (by rw [e, hx]); omega), hl j c, idxF_at h' c]
    · have e : j = l.length := by simp at hj; omega
      rw [e, hx, if_pos rfl]
  · rw [idxF_none hn]
    rw [if_neg (fun e => hn l.length (by simp) (by rw [hx, e]))]
    exact idxF_none (fun j hj e => hn j (by simp; omega) (by rw [hl j hj]; exact e))

def putM (room : Int) (l : List (It ByteArray)) (when : Int) (v : ByteArray) (a b : Int) : List (It ByteArray) × Int × Bool :=
  if (dropM l v).2 = false ∧ (l.length : Int) ≥ room then (l, when, false) else (rise ((dropM l v).1 ++ [⟨v, a, b, when + 1⟩]) (dropM l v).1.length, when + 1, true)

/-- an item more -/
theorem HRep.grown {w w1 : World} {p gg cap : Nat} {v : Value} {B : Nat} {room : Int} {l : List (It ByteArray)} {when : Int} {f : ByteArray → Option Value} {x : It ByteArray} (h : HRep w p v B room l when f) (hx : fits x.v) (hfew : l.length + 1 ≤ 1000)
    (hown : w1.ownsRow 0 128 4 (.slice (some ⟨gg, 0, none⟩) (l.length + 1) cap) (l.length + 1) (cellsOf l ++ ic x)) (hg : w.grownBy w1 v.ownBlock) :
    HRep (w1.setCell ⟨p, 1, none⟩ (.slice (some ⟨gg, 0, none⟩) (l.length + 1) cap)) p (.slice (some ⟨gg, 0, none⟩) (l.length + 1) cap) B room (l ++ [x]) when f := by
  have hpB := h.ne_map
  obtain ⟨es, clock, hm⟩ := h.map
  have np : some p ≠ v.ownBlock := by
    rcases h.row.2 with ⟨rfl, _⟩ | ⟨g, cap, cur, rfl, h4, h5, h6⟩
    · simp [Value.ownBlock]
    · simp only [Value.ownBlock, ne_eq, Option.some.injEq]
      rintro rfl
      rw [h.top] at h5
      injection h5 with h5
      injection h5 with _ h5
      cases h5
  have nB : some B ≠ v.ownBlock := by
    rcases h.row.2 with ⟨rfl, _⟩ | ⟨g, cap, cur, rfl, h4, h5, h6⟩
    · simp [Value.ownBlock]
    · simp only [Value.ownBlock, ne_eq, Option.some.injEq]
      rintro rfl
      rw [hm.blk] at h5
      cases h5
  have tp : w1.heap[p]? = some (.cells #[.int .i64 room, v, .map (some B), .int .i64 when] 122 (0, 0)) := (hg.block p (Array.getElem?_eq_some_iff.1 h.top).1 np).trans h.top
  have tB := hm.move (hg.block B hm.lt nB)
  obtain ⟨r1, r2⟩ := hown
  have ec : cellsOf (l ++ [x]) = cellsOf l ++ ic x := by unfold cellsOf; rw [List.flatMap_append]; simp
  refine ⟨by rw [blk_set tp]; rfl, ⟨by rw [ec, r1]; simp, ?_⟩, ⟨es, clock, tB.move (Below.heap_setCell _ _ _ B (fun e => hpB e.symm))⟩, ?_, by simpa using hfew⟩
  · rcases r2 with ⟨h3, h4⟩ | ⟨g, cap', cur, h3, h4, h5, h6, h7, h8, h9⟩
    · omega
    · refine Or.inr ⟨g, cap', cur, by simpa using h3, h4, ?_, by simpa using h6, h7, h8, by rw [ec]; simpa using h9⟩
      rw [Below.heap_setCell]
      · exact h5
      · rintro rfl
        rw [tp] at h5
        injection h5 with h5
        injection h5 with _ h5
        cases h5
  · intro y hy
    rcases List.mem_append.1 hy with hy | hy
    · exact h.good y hy
    · simp only [List.mem_singleton] at hy; subst hy; exact hx
end Go.Proofs.Ytpmamgdblbplcaa.Hs

/-! YtpmamgdblbplcaaHSPut2 -/
namespace Go.Proofs.Ytpmamgdblbplcaa.Hs
open Go.RowKit Go.Proofs.Ytpmamgdblbplcaa.Mp Go.Proofs.Ytpmamgdblbplcaa.HeapModel Go.ChangeMaps
open Go.Proofs.Ytpmamgdblbplcaa.Hp (blk_set heap_drew blk_cell blk_frozen below_drewN int_half ltN)
set_option linter.unusedVariables false
set_option linter.unusedSimpArgs false

theorem drop_no {w : World} {p : Nat} {v : Value} {B : Nat} {room : Int} {l : List (It ByteArray)} {when : Int} (h : HRep w p v B room l when (idxF l)) (a : ByteArray) (ha : fits a) (hn : ∀ i, i < l.length → (at_ l i).v ≠ a) :
    Calls Try.prog 94 #[.pointer (some ⟨p, 0, none⟩), .string a] w fun e w' => e = .returned (.bool false) ∧ w' = w := by
  have hz : (zeroValue 3).run Try.prog w = .ok (.int .i64 0) w := by kernel_rfl
  obtain ⟨es, clock, hmap⟩ := h.map
  have hlook := hmap.look keyed Try.underlying119 hz (Go.WideMaps.keyOf_string_mk Try.underlying9 ha) true
  have c2 := (blk_cell h.top 2).trans (rfl : _ = some (Value.map (some B)))
  rw [idxF_none hn] at hlook
  simp only [if_true, Option.getD_none, Option.isSome_none] at hlook
  clear hn
  go_enter Try.func94, Try.ntmps94
  go_wp2
  go_ret
  exact ⟨rfl, rfl⟩

set_option maxHeartbeats 4000000 in
set_option maxRecDepth 100000 in
theorem put_no {w : World} {p : Nat} {v : Value} {B : Nat} {room : Int} {l : List (It ByteArray)} {when : Int} (h : HRep w p v B room l when (idxF l)) (hK : Keys l) (k : ByteArray) (a b : Int) (hk : fits k) (hn : ∀ i, i < l.length → (at_ l i).v ≠ k)
    (hr : (l.length : Int) < room) (hroom : room ≤ 1000) (hw : 0 ≤ when) (hw' : when < 4611686018427387904) :
    Calls Try.prog 47 #[.pointer (some ⟨p, 0, none⟩), .string k, .int .i64 a, .int .i64 b] w fun e w' => e = .returned (.bool true) ∧
      ∃ v', HRep w' p v' B room (rise (l ++ [⟨k, a, b, when + 1⟩]) l.length) (when + 1) (idxF (rise (l ++ [⟨k, a, b, when + 1⟩]) l.length)) ∧ Hp.Touch (fun b => b = p ∨ b = B ∨ v.ownBlock = some b) w w' ∧ (∀ b, v'.ownBlock = some b → v.ownBlock = some b ∨ w.heap.size ≤ b) := by
  obtain ⟨n, A, cp, hv⟩ : ∃ n A cp, v = .slice A n cp := by
    rcases h.row.2 with ⟨h2, _⟩ | ⟨g, cap, cur, h2, _⟩
    · exact ⟨_, _, _, h2⟩
    · exact ⟨_, _, _, h2⟩
  obtain ⟨hl, hlc⟩ : n = l.length ∧ True := by
    rcases h.row.2 with ⟨h2, h3⟩ | ⟨g, cap, cur, h2, _⟩
    · rw [hv] at h2; injection h2 with _ h2 _; exact ⟨by omega, trivial⟩
    · rw [hv] at h2; injection h2 with _ h2 _; exact ⟨h2, trivial⟩
  obtain ⟨i0, hi0, hz0, hz1, hz2⟩ := info_parts info128
  have hK2 : Keys (l ++ [⟨k, a, b, when + 1⟩]) := by
    unfold Keys at *
    rw [List.map_append]
    refine List.nodup_append.2 ⟨hK, by simp, fun x hx y hy e => ?_⟩
    simp only [List.map_cons, List.map_nil, List.mem_singleton] at hy
    obtain ⟨z, hz, rfl⟩ := List.mem_map.1 hx
    obtain ⟨i, hi, rfl⟩ := List.getElem_of_mem hz
    exact hn i hi (by rw [at_get l i hi]; exact e.trans hy)
  subst hv
  have hfew := h.few
  -- the time goes on; the key is stored
  have h2 : HRep (w.setCell ⟨p, 3, none⟩ (.int .i64 (when + 1))).drew.drew p (.slice A n cp) B room l (when + 1) (idxF l) := (h.tick (when + 1)).drew.drew
  obtain ⟨o, hst, h3⟩ := h2.store k hk (.int .i64 (l.length : Int))
  have e3 : upd (idxF l) k (some (.int .i64 (l.length : Int))) = idxF (l ++ [⟨k, a, b, when + 1⟩]) := idxF_append (x := ⟨k, a, b, when + 1⟩) hK2
  rw [e3] at h3
  obtain ⟨W3, hW3⟩ : ∃ W3, W3 = setBlock (w.setCell ⟨p, 3, none⟩ (.int .i64 (when + 1))).drew.drew B o := ⟨_, rfl⟩
  rw [← hW3] at hst h3
  have c0 := (blk_cell h.top 0).trans (rfl : _ = some (Value.int .i64 room))
  have c1 := (blk_cell h.top 1).trans (rfl : _ = some (Value.slice A n cp))
  have c3 := (blk_cell h.top 3).trans (rfl : _ = some (Value.int .i64 when))
  have f3 := blk_frozen h.top 3
  have d1 := (blk_cell h2.top 1).trans (rfl : _ = some (Value.slice A n cp))
  have d2 := (blk_cell h2.top 2).trans (rfl : _ = some (Value.map (some B)))
  have g1 := (blk_cell h3.top 1).trans (rfl : _ = some (Value.slice A n cp))
  have g2 := (blk_cell h3.top 2).trans (rfl : _ = some (Value.map (some B)))
  have g3 := (blk_cell h3.top 3).trans (rfl : _ = some (Value.int .i64 (when + 1)))
  have gf := blk_frozen h3.top 1
  rw [← hl] at hst hr
  have hown : W3.ownsRow 0 128 4 (.slice A n cp) n (cellsOf l) := by rw [hl]; have := h3.row; rw [hl] at this; exact this
  have np : some p ≠ (Value.slice A n cp).ownBlock := by
    rcases h.row.2 with ⟨q1, q2⟩ | ⟨g, cap, cur, q1, q4, q5, q6⟩
    · injection q1 with q1 _ _; subst q1; simp [Value.ownBlock]
    · injection q1 with q1 _ _
      subst q1
      simp only [Value.ownBlock, ne_eq, Option.some.injEq]
      rintro rfl
      rw [h.top] at q5
      injection q5 with q5
      injection q5 with _ q5
      cases q5
  have t3 := h3.top
  have lt3 : p < W3.heap.size := (Array.getElem?_eq_some_iff.1 h3.top).1
  have HO := Lib.hid hown
  have NP := Lib.hid np
  have T3 := Lib.hid t3
  have hmax : n + 1 ≤ maxLen := by unfold maxLen; omega
  have hbytes : (n + 1) * 40 ≤ 140737488355328 := by omega
  have I0 := Lib.hid hz0
  have H0 := Lib.hid h
  have H3 := Lib.hid h3
  have HN := Lib.hid hn
  have HL := Lib.hid hl
  have HK2 := Lib.hid hK2
  have HW3 := Lib.hid hW3
  have hlt : ¬ ((n : Int) ≥ room) := by omega
  clear h hn hK hK2 h2 h3 e3 hl hlc hW3 hown np t3 hz0
  go_enter Try.func47, Try.ntmps47
  go_wp2_with fail
  go_region_held3 (fun w' => w'.cell? ⟨p, 0, none⟩ = some (.int .i64 room) ∧ w'.cell? ⟨p, 1, none⟩ = some (.slice A n cp)) (first | exact ⟨c0, c1⟩) ((go_at_call 94; refine (drop_no H0.out.drew k hk HN.out).mono ?_; rintro e w1 ⟨rfl, rfl⟩))
  go_wp2_with fail
  go_region_held3 (fun w' => w'.cell? ⟨p, 1, none⟩ = some (.slice A n cp) ∧ w'.cell? ⟨p, 2, none⟩ = some (.map (some B))) (first | exact ⟨d1, d2⟩ | exact ⟨g1, g2⟩) (first | fail)
  go_wp2_with fail
  go_region_law ((refine step_append_lies _ (by rfl) _ _ _ (by rfl) 0 128 i0 _ 4 40 Try.underlying120 hi0 I0.out hz1 hz2 rfl (by omega) (.slice A n cp) n (cellsOf l) (by rfl) ((HO.out.alloc _).drew) ⟨W3.heap.size, 0, none⟩ 1 1 [.string k, .int .i64 a, .int .i64 b, .int .i64 (when + 1)] (by rfl) (by rfl) (World.news_of_block (cs := #[.string k, .int .i64 a, .int .i64 b, .int .i64 (when + 1)]) (t := 128) (fr := (0, 0)) (heap_alloc_new W3 _)) (by simp [Value.oneCell']) (by omega) hmax hbytes (by simp) (W3.heap.size + 1) (by simp) ?_; intro gg cap w1 hown1 hgrow hat hlt; have tp1 := (hgrow.block p (by simp; omega) NP.out).trans ((Below.heap_alloc W3 _ p lt3).trans T3.out); have p1 := (blk_cell tp1 1).trans (rfl : _ = some (Value.slice A n cp)); have pf1 := blk_frozen tp1 1; have HO1 := Lib.hid hown1; have HG := Lib.hid hgrow; have HAT := Lib.hid hat; clear hown1 hgrow hat tp1))
  go_wp2_with fail
  all_goals
    have ha : Below W3.heap.size W3 (W3.alloc (.cells #[.string k, .int .i64 a, .int .i64 b, .int .i64 (when + 1)] 128)).drew := ((Below.refl _ _).alloc (Nat.le_refl _) _).drew
    have hg := HRep.grown (x := ⟨k, a, b, when + 1⟩) (H3.out.below ha) hk (by rw [← HL.out]; omega) (gg := gg) (cap := cap) (by have := HO1.out; rw [HL.out] at this; exact this) HG.out
    rw [← HL.out] at hg
    have T5 : Hp.Touch (fun b => b = p ∨ b = B ∨ (Value.slice A n cp).ownBlock = some b) w (w1.setCell ⟨p, 1, none⟩ (.slice (some ⟨gg, 0, none⟩) (n + 1) cap)) := by
      have t1 : Hp.Touch (fun b => b = p ∨ b = B ∨ (Value.slice A n cp).ownBlock = some b) w W3 := by
        rw [HW3.out]
        exact ((((Hp.Touch.refl _ w).setCell (p := ⟨p, 3, none⟩) (Or.inl rfl) _).drew).drew).setBlock (Or.inr (Or.inl rfl)) _
      have t2 := (t1.then (Hp.Touch.of_below (S := fun _ => False) ha) (fun _ _ h => h.elim)).then (Hp.Touch.of_grown HG.out) (fun k _ h => Or.inr (Or.inr h))
      exact t2.setCell (p := ⟨p, 1, none⟩) (Or.inl rfl) _
    have HG5 := Lib.hid hg
    have HT5 := Lib.hid T5
    clear hg T5 ha
    refine Calls.mono (rise_at HG5.out HK2.out n rfl (by rw [HL.out]; simp)) ?_
    rintro e w6 ⟨rfl, h6, t6⟩
    have H6 := Lib.hid h6
    have T6 := Lib.hid t6
    clear h6 t6
    go_wp2_with fail
    go_ret
    rw [← HL.out]
    refine ⟨rfl, .slice (some ⟨gg, 0, none⟩) (n + 1) cap, H6.out, HT5.out.then T6.out ?_, ?_⟩
    · rintro b hb (h | h)
      · exact Or.inr (Or.inl h)
      · have e : gg = b := by simpa [Value.ownBlock] using h
        rcases HAT.out with h2 | h2
        · exact Or.inr (Or.inr (by rw [h2, e]))
        · have : w.heap.size ≤ W3.heap.size := by rw [HW3.out]; simp [setBlock]
          omega
    · intro b hb
      have e : gg = b := by simpa [Value.ownBlock] using hb
      rcases HAT.out with h2 | h2
      · exact Or.inl (by rw [h2, e])
      · have : w.heap.size ≤ W3.heap.size := by rw [HW3.out]; simp [setBlock]
        exact Or.inr (by omega)
end Go.Proofs.Ytpmamgdblbplcaa.Hs

/-! YtpmamgdblbplcaaHSPut3 -/
namespace Go.Proofs.Ytpmamgdblbplcaa.Hs
open Go.RowKit Go.Proofs.Ytpmamgdblbplcaa.Mp Go.Proofs.Ytpmamgdblbplcaa.HeapModel Go.ChangeMaps
open Go.Proofs.Ytpmamgdblbplcaa.Hp (blk_set heap_drew blk_cell blk_frozen below_drewN int_half ltN)
set_option linter.unusedVariables false
set_option linter.unusedSimpArgs false


theorem slice_of {w : World} {p : Nat} {v : Value} {B : Nat} {room : Int} {l : List (It ByteArray)} {when : Int} {f : ByteArray → Option Value} (h : HRep w p v B room l when f) : ∃ A cp, v = .slice A l.length cp := by
  rcases h.row.2 with ⟨h2, h3⟩ | ⟨g, cap, cur, h2, _⟩
  · exact ⟨_, _, by rw [h2, show l.length = 0 by omega]⟩
  · exact ⟨_, _, h2⟩
theorem own_ne {w : World} {p : Nat} {v : Value} {B : Nat} {room : Int} {l : List (It ByteArray)} {when : Int} {f : ByteArray → Option Value} (h : HRep w p v B room l when f) : some p ≠ v.ownBlock := by
  rcases h.row.2 with ⟨q1, q2⟩ | ⟨g, cap, cur, q1, q4, q5, q6⟩
  · subst q1; simp [Value.ownBlock]
  · subst q1
    simp only [Value.ownBlock, ne_eq, Option.some.injEq]
    rintro rfl
    rw [h.top] at q5
    injection q5 with q5
    injection q5 with _ q5
    cases q5
set_option maxHeartbeats 1000000 in
theorem put_full {w : World} {p : Nat} {v : Value} {B : Nat} {room : Int} {l : List (It ByteArray)} {when : Int} (h : HRep w p v B room l when (idxF l)) (k : ByteArray) (a b : Int) (hk : fits k) (hn : ∀ i, i < l.length → (at_ l i).v ≠ k)
    (hr : ¬ (l.length : Int) < room) :
    Calls Try.prog 47 #[.pointer (some ⟨p, 0, none⟩), .string k, .int .i64 a, .int .i64 b] w fun e w' => e = .returned (.bool false) ∧ Below w.heap.size w w' := by
  obtain ⟨A, cp, hv⟩ := slice_of h
  obtain ⟨n, hl⟩ : ∃ n, n = l.length := ⟨_, rfl⟩
  rw [← hl] at hv hr
  subst hv
  have c0 := (blk_cell h.top 0).trans (rfl : _ = some (Value.int .i64 room))
  have c1 := (blk_cell h.top 1).trans (rfl : _ = some (Value.slice A n cp))
  have hfew := h.few
  rw [← hl] at hfew
  have H0 := Lib.hid h
  have HN := Lib.hid hn
  have hge : (n : Int) ≥ room := by omega
  clear h hn hl
  go_enter Try.func47, Try.ntmps47
  go_wp2_with fail
  go_region_held3 (fun w' => w'.cell? ⟨p, 0, none⟩ = some (.int .i64 room) ∧ w'.cell? ⟨p, 1, none⟩ = some (.slice A n cp)) (first | exact ⟨c0, c1⟩) ((go_at_call 94; refine (drop_no H0.out.drew k hk HN.out).mono ?_; rintro e w1 ⟨rfl, rfl⟩))
  go_wp2_with fail
  go_ret
  exact ⟨rfl, (Below.refl _ _).drew⟩


set_option maxHeartbeats 4000000 in
set_option maxRecDepth 100000 in
theorem put_yes {w : World} {p : Nat} {v : Value} {B : Nat} {room : Int} {l : List (It ByteArray)} {when : Int} (h : HRep w p v B room l when (idxF l)) (hK : Keys l) (k : ByteArray) (a b : Int) (hk : fits k)
    (hr : (dropM l k).2 = true) (hK' : Keys (dropM l k).1) (hn : ∀ i, i < (dropM l k).1.length → (at_ (dropM l k).1 i).v ≠ k) (hfew : (dropM l k).1.length < 1000) (hw : 0 ≤ when) (hw' : when < 4611686018427387904) :
    Calls Try.prog 47 #[.pointer (some ⟨p, 0, none⟩), .string k, .int .i64 a, .int .i64 b] w fun e w' => e = .returned (.bool true) ∧
      ∃ v', HRep w' p v' B room (rise ((dropM l k).1 ++ [⟨k, a, b, when + 1⟩]) (dropM l k).1.length) (when + 1) (idxF (rise ((dropM l k).1 ++ [⟨k, a, b, when + 1⟩]) (dropM l k).1.length)) ∧ Hp.Touch (fun b => b = p ∨ b = B ∨ v.ownBlock = some b) w w' ∧ (∀ b, v'.ownBlock = some b → v.ownBlock = some b ∨ w.heap.size ≤ b) := by
  obtain ⟨i0, hi0, hz0, hz1, hz2⟩ := info_parts info128
  have HD := drop_rep h.drew hK k hk
  rw [hr] at HD
  obtain ⟨l', hl'⟩ : ∃ l', l' = (dropM l k).1 := ⟨_, rfl⟩
  rw [← hl'] at HD hK' hn hfew ⊢
  clear hl' hr
  have hK2 : Keys (l' ++ [⟨k, a, b, when + 1⟩]) := by
    unfold Keys at *
    rw [List.map_append]
    refine List.nodup_append.2 ⟨hK', by simp, fun x hx y hy e => ?_⟩
    simp only [List.map_cons, List.map_nil, List.mem_singleton] at hy
    obtain ⟨z, hz, rfl⟩ := List.mem_map.1 hx
    obtain ⟨i, hi, rfl⟩ := List.getElem_of_mem hz
    exact hn i hi (by rw [at_get l' i hi]; exact e.trans hy)
  obtain ⟨n, hn⟩ : ∃ n, n = l'.length := ⟨_, rfl⟩
  rw [← hn] at hfew
  have hmax : n + 1 ≤ maxLen := by unfold maxLen; omega
  have hbytes : (n + 1) * 40 ≤ 140737488355328 := by omega
  have I0 := Lib.hid hz0
  have HN := Lib.hid hn
  have HK2 := Lib.hid hK2
  have HD2 := Lib.hid HD
  clear h hn hK hK' hK2 hz0 HD
  go_enter Try.func47, Try.ntmps47
  go_wp2_with fail
  refine wp_region_any (by kernel_rfl) ?_
  change wpAny _ _ _ _ _ _ _ (World.drew _)
  refine wpAny_take (i := 0) (v := .pointer (some ⟨p, 0, none⟩)) rfl (by kernel_rfl) (by kernel_rfl) (by kernel_rfl) (fun _ _ _ h => h) (Or.inl ⟨by rfl, fun _ => by go_simp⟩) ?_
  refine wpAny_take (i := 1) (v := .string k) rfl (by kernel_rfl) (by kernel_rfl) (by kernel_rfl) (fun _ _ _ h => h) (Or.inl ⟨by rfl, fun _ => by go_simp⟩) ?_
  refine wpAny_ready (rs := [2]) (by kernel_rfl) (by simp) ?_
  refine AllReady.cons rfl (fun K hK => ?_) AllReady.nil
  go_simp
  go_at_call 94
  refine HD2.out.mono ?_
  rintro e w1 ⟨rfl, v1, hr1, ht1, ho1⟩
  go_simp
  refine hK _ _ ?_
  clear hK K
  refine wpAny_take (i := 3) (v := .bool false) rfl (by kernel_rfl) (by kernel_rfl) (by kernel_rfl) (fun _ _ _ h => h) (Or.inl ⟨by rfl, fun _ => by go_simp⟩) ?_
  refine wpAny_take (i := 4) (v := .bool false) rfl (by kernel_rfl) (by kernel_rfl) (by kernel_rfl) (fun _ _ _ h => h) (Or.inl ⟨by rfl, fun _ => by go_simp⟩) ?_
  refine wpAny_take (i := 5) (v := undef) rfl (by kernel_rfl) (by kernel_rfl) (by kernel_rfl) (fun _ _ _ h => h) (Or.inr ⟨by kernel_rfl, rfl⟩) ?_
  refine wpAny_take (i := 6) (v := undef) rfl (by kernel_rfl) (by kernel_rfl) (by kernel_rfl) (fun _ _ _ h => h) (Or.inr ⟨by kernel_rfl, rfl⟩) ?_
  refine wpAny_take (i := 7) (v := undef) rfl (by kernel_rfl) (by kernel_rfl) (by kernel_rfl) (fun _ _ _ h => h) (Or.inr ⟨by kernel_rfl, rfl⟩) ?_
  refine wpAny_take (i := 8) (v := undef) rfl (by kernel_rfl) (by kernel_rfl) (by kernel_rfl) (fun _ _ _ h => h) (Or.inr ⟨by kernel_rfl, rfl⟩) ?_
  refine wpAny_take (i := 9) (v := undef) rfl (by kernel_rfl) (by kernel_rfl) (by kernel_rfl) (fun _ _ _ h => h) (Or.inr ⟨by kernel_rfl, rfl⟩) ?_
  refine wpAny_take (i := 10) (v := undef) rfl (by kernel_rfl) (by kernel_rfl) (by kernel_rfl) (fun _ _ _ h => h) (Or.inr ⟨by kernel_rfl, rfl⟩) ?_
  refine wpAny_take (i := 11) (v := undef) rfl (by kernel_rfl) (by kernel_rfl) (by kernel_rfl) (fun _ _ _ h => h) (Or.inr ⟨by kernel_rfl, rfl⟩) ?_
  refine wpAny_take (i := 12) (v := undef) rfl (by kernel_rfl) (by kernel_rfl) (by kernel_rfl) (fun _ _ _ h => h) (Or.inr ⟨by kernel_rfl, rfl⟩) ?_
  refine wpAny_take (i := 13) (v := undef) rfl (by kernel_rfl) (by kernel_rfl) (by kernel_rfl) (fun _ _ _ h => h) (Or.inr ⟨by kernel_rfl, rfl⟩) ?_
  refine wpAny_take (i := 14) (v := undef) rfl (by kernel_rfl) (by kernel_rfl) (by kernel_rfl) (fun _ _ _ h => h) (Or.inr ⟨by kernel_rfl, rfl⟩) ?_
  refine wpAny_take (i := 15) (v := .bool false) rfl (by kernel_rfl) (by kernel_rfl) (by kernel_rfl) (fun _ _ _ h => h) (Or.inl ⟨by rfl, fun _ => by go_simp⟩) ?_
  refine wpAny_done (by kernel_rfl) ?_ _
  go_simp
  obtain ⟨A, cp, hv⟩ := slice_of hr1
  rw [← HN.out] at hv
  subst hv
  have h2 : HRep (w1.setCell ⟨p, 3, none⟩ (.int .i64 (when + 1))).drew p (.slice A n cp) B room l' (when + 1) (idxF l') := (hr1.tick (when + 1)).drew
  obtain ⟨o, hst, h3⟩ := h2.store k hk (.int .i64 (l'.length : Int))
  have e3 : upd (idxF l') k (some (.int .i64 (l'.length : Int))) = idxF (l' ++ [⟨k, a, b, when + 1⟩]) := idxF_append (x := ⟨k, a, b, when + 1⟩) HK2.out
  rw [e3] at h3
  obtain ⟨W3, hW3⟩ : ∃ W3, W3 = setBlock (w1.setCell ⟨p, 3, none⟩ (.int .i64 (when + 1))).drew B o := ⟨_, rfl⟩
  rw [← hW3] at hst h3
  have c3 := (blk_cell hr1.top 3).trans (rfl : _ = some (Value.int .i64 when))
  have f3 := blk_frozen hr1.top 3
  have d1 := (blk_cell h2.top 1).trans (rfl : _ = some (Value.slice A n cp))
  have d2 := (blk_cell h2.top 2).trans (rfl : _ = some (Value.map (some B)))
  have g1 := (blk_cell h3.top 1).trans (rfl : _ = some (Value.slice A n cp))
  have g2 := (blk_cell h3.top 2).trans (rfl : _ = some (Value.map (some B)))
  have g3 := (blk_cell h3.top 3).trans (rfl : _ = some (Value.int .i64 (when + 1)))
  have gf := blk_frozen h3.top 1
  rw [← HN.out] at hst
  have hown : W3.ownsRow 0 128 4 (.slice A n cp) n (cellsOf l') := by have := h3.row; rw [← HN.out] at this; exact this
  have np : some p ≠ (Value.slice A n cp).ownBlock := own_ne hr1
  have t3 := h3.top
  have lt3 : p < W3.heap.size := (Array.getElem?_eq_some_iff.1 h3.top).1
  have hv' : v.ownBlock = (Value.slice A n cp).ownBlock := ho1.symm
  have t1 : Hp.Touch (fun b => b = p ∨ b = B ∨ v.ownBlock = some b) w w1 := (((Hp.Touch.refl _ w).drew).trans ht1)
  have HT1 := Lib.hid t1
  have HV := Lib.hid hv'
  have HO := Lib.hid hown
  have NP := Lib.hid np
  have T3 := Lib.hid t3
  have H3 := Lib.hid h3
  have HL : Hid (l'.length = n) := Lib.hid HN.out.symm
  have HW3 := Lib.hid hW3
  have hnl := Lib.hid hn
  clear hr1 ht1 ho1 h2 h3 e3 hW3 hown np t3 hv' t1 hn
  go_wp2_with fail
  go_region_held3 (fun w' => w'.cell? ⟨p, 1, none⟩ = some (.slice A n cp) ∧ w'.cell? ⟨p, 2, none⟩ = some (.map (some B))) (first | exact ⟨d1, d2⟩ | exact ⟨g1, g2⟩) (first | fail)
  go_wp2_with fail
  go_region_law ((refine step_append_lies _ (by rfl) _ _ _ (by rfl) 0 128 i0 _ 4 40 Try.underlying120 hi0 I0.out hz1 hz2 rfl (by omega) (.slice A n cp) n (cellsOf l') (by rfl) ((HO.out.alloc _).drew) ⟨W3.heap.size, 0, none⟩ 1 1 [.string k, .int .i64 a, .int .i64 b, .int .i64 (when + 1)] (by rfl) (by rfl) (World.news_of_block (cs := #[.string k, .int .i64 a, .int .i64 b, .int .i64 (when + 1)]) (t := 128) (fr := (0, 0)) (heap_alloc_new W3 _)) (by simp [Value.oneCell']) (by omega) hmax hbytes (by simp) (W3.heap.size + 1) (by simp) ?_; intro gg cap w1 hown1 hgrow hat hlt; have tp1 := (hgrow.block p (by simp; omega) NP.out).trans ((Below.heap_alloc W3 _ p lt3).trans T3.out); have p1 := (blk_cell tp1 1).trans (rfl : _ = some (Value.slice A n cp)); have pf1 := blk_frozen tp1 1; have HO1 := Lib.hid hown1; have HG := Lib.hid hgrow; have HAT := Lib.hid hat; clear hown1 hgrow hat tp1))
  go_wp2_with fail
  all_goals
    have ha : Below W3.heap.size W3 (W3.alloc (.cells #[.string k, .int .i64 a, .int .i64 b, .int .i64 (when + 1)] 128)).drew := ((Below.refl _ _).alloc (Nat.le_refl _) _).drew
    have hg := HRep.grown (x := ⟨k, a, b, when + 1⟩) (H3.out.below ha) hk (by rw [HL.out]; omega) (gg := gg) (cap := cap) (by have := HO1.out; rw [← HL.out] at this; exact this) HG.out
    rw [HL.out] at hg
    have hle : w.heap.size ≤ W3.heap.size := by
      have h1 := HT1.out.size
      rw [HW3.out]
      simpa [setBlock] using h1
    have T5 : Hp.Touch (fun b => b = p ∨ b = B ∨ v.ownBlock = some b) w (w1.setCell ⟨p, 1, none⟩ (.slice (some ⟨gg, 0, none⟩) (n + 1) cap)) := by
      have t1 : Hp.Touch (fun b => b = p ∨ b = B ∨ v.ownBlock = some b) w W3 := by
        rw [HW3.out]
        exact (((HT1.out.setCell (p := ⟨p, 3, none⟩) (Or.inl rfl) _).drew).setBlock (Or.inr (Or.inl rfl)) _)
      have t2 := (t1.then (Hp.Touch.of_below (S := fun _ => False) ha) (fun _ _ h => h.elim)).then (Hp.Touch.of_grown HG.out) (fun k _ h => Or.inr (Or.inr (HV.out.trans h)))
      exact t2.setCell (p := ⟨p, 1, none⟩) (Or.inl rfl) _
    have HG5 := Lib.hid hg
    have HT5 := Lib.hid T5
    have HLE := Lib.hid hle
    clear hg T5 ha hle
    refine Calls.mono (rise_at HG5.out HK2.out n rfl (by rw [← HL.out]; simp)) ?_
    rintro e w6 ⟨rfl, h6, t6⟩
    have H6 := Lib.hid h6
    have T6 := Lib.hid t6
    clear h6 t6
    go_wp2_with fail
    go_ret
    rw [HL.out]
    refine ⟨rfl, .slice (some ⟨gg, 0, none⟩) (n + 1) cap, H6.out, HT5.out.then T6.out ?_, ?_⟩
    · rintro b hb (h | h)
      · exact Or.inr (Or.inl h)
      · have e : gg = b := by simpa [Value.ownBlock] using h
        rcases HAT.out with h2 | h2
        · exact Or.inr (Or.inr (by rw [HV.out, h2, e]))
        · have := HLE.out
          omega
    · intro b hb
      have e : gg = b := by simpa [Value.ownBlock] using hb
      rcases HAT.out with h2 | h2
      · exact Or.inl (by rw [HV.out, h2, e])
      · have := HLE.out
        exact Or.inr (by omega)
end Go.Proofs.Ytpmamgdblbplcaa.Hs

/-! YtpmamgdblbplcaaHSGet -/
namespace Go.Proofs.Ytpmamgdblbplcaa.Hs
open Go.RowKit Go.Proofs.Ytpmamgdblbplcaa.Mp Go.Proofs.Ytpmamgdblbplcaa.HeapModel Go.ChangeMaps
open Go.Proofs.Ytpmamgdblbplcaa.Hp (blk_set heap_drew blk_cell blk_frozen below_drewN int_half ltN)
set_option linter.unusedVariables false
set_option linter.unusedSimpArgs false

theorem nil_drop (a : ByteArray) (w : World) : Calls Try.prog 94 #[.pointer none, .string a] w fun e w' => e = .returned (.bool false) ∧ w' = w := by
  go_enter Try.func94, Try.ntmps94
  go_wp2
  go_ret
  exact ⟨rfl, rfl⟩
theorem nil_put (k : ByteArray) (a b : Int) (w : World) : Calls Try.prog 47 #[.pointer none, .string k, .int .i64 a, .int .i64 b] w fun e w' => e = .returned (.bool false) ∧ w' = w := by
  go_enter Try.func47, Try.ntmps47
  go_wp2
  go_ret
  exact ⟨rfl, rfl⟩
theorem nil_key (k : ByteArray) (w : World) : Calls Try.prog 103 #[.pointer none, .string k] w fun e w' => e = .returned (.tuple #[.int .i64 0, .int .i64 0, .bool false]) ∧ w' = w := by
  go_enter Try.func103, Try.ntmps103
  go_wp2
  go_ret3
  exact ⟨rfl, rfl⟩
theorem nil_len (w : World) : Calls Try.prog 51 #[.pointer none] w fun e w' => e = .returned (.int .i64 0) ∧ w' = w := by
  go_enter Try.func51, Try.ntmps51
  go_wp2
  go_ret
  exact ⟨rfl, rfl⟩
theorem nil_first (w : World) : Calls Try.prog 83 #[.pointer none] w fun e w' => e = .returned (.tuple #[.string ByteArray.empty, .bool false]) ∧ w' = w := by
  go_enter Try.func83, Try.ntmps83
  go_wp2_with (go_at_call 51; refine (nil_len _).mono ?_; rintro e w1 ⟨rfl, rfl⟩)
  go_ret2
  exact ⟨rfl, rfl⟩
theorem nil_take (w : World) : Calls Try.prog 49 #[.pointer none] w fun e w' => e = .returned (.tuple #[.string ByteArray.empty, .bool false]) ∧ w' = w := by
  go_enter Try.func49, Try.ntmps49
  go_wp2_with (go_at_call 83; refine (nil_first _).mono ?_; rintro e w1 ⟨rfl, rfl⟩)
  go_ret2
  exact ⟨rfl, rfl⟩

theorem len_rep {w : World} {p : Nat} {v : Value} {B : Nat} {room : Int} {l : List (It ByteArray)} {when : Int} {f : ByteArray → Option Value} (h : HRep w p v B room l when f) :
    Calls Try.prog 51 #[.pointer (some ⟨p, 0, none⟩)] w fun e w' => e = .returned (.int .i64 l.length) ∧ w' = w := by
  obtain ⟨A, cp, hv⟩ := slice_of h
  obtain ⟨n, hl⟩ : ∃ n, n = l.length := ⟨_, rfl⟩
  rw [← hl] at hv ⊢
  subst hv
  have c1 := (blk_cell h.top 1).trans (rfl : _ = some (Value.slice A n cp))
  have hfew := h.few
  rw [← hl] at hfew
  clear h hl
  go_enter Try.func51, Try.ntmps51
  go_wp2
  go_ret
  exact ⟨rfl, rfl⟩

theorem first_rep {w : World} {p : Nat} {v : Value} {B : Nat} {room : Int} {l : List (It ByteArray)} {when : Int} {f : ByteArray → Option Value} (h : HRep w p v B room l when f) :
    Calls Try.prog 83 #[.pointer (some ⟨p, 0, none⟩)] w fun e w' => e = .returned (.tuple #[.string (if 0 < l.length then (at_ l 0).v else ByteArray.empty), .bool (decide (0 < l.length))]) ∧ w' = w := by
  have HL := len_rep h
  by_cases h0 : 0 < l.length
  · obtain ⟨g, cap, cur, hv, hg, hn, hc, hs, ht, hgp, hgB⟩ := h.open_row h0
    have q0 := (blk_cell hg _).trans (cur_cell ht 0 0 h0 (by omega))
    have q0' : w.cell? ⟨g, 0, none⟩ = some (.string (at_ l 0).v) := q0
    rw [if_pos h0]
    have hd : decide (0 < l.length) = true := decide_eq_true h0
    rw [hd]
    obtain ⟨n, hl⟩ : ∃ n, n = l.length := ⟨_, rfl⟩
    rw [← hl] at hv h0 hn HL
    subst hv
    have c1 := (blk_cell h.top 1).trans (rfl : _ = some (Value.slice (some ⟨g, 0, none⟩) n cap))
    have hfew := h.few
    rw [← hl] at hfew
    have hne : ¬ ((n : Int) = 0) := by omega
    have h0' : (0 : Int) < (n : Int) := by omega
    have HH := Lib.hid HL
    clear h hl hg ht HL q0 hd
    go_enter Try.func83, Try.ntmps83
    go_wp2_with (go_at_call 51; refine (HH.out).mono ?_; rintro e w1 ⟨rfl, rfl⟩)
    go_ret2
    exact ⟨rfl, rfl⟩
  · rw [if_neg h0]
    have hd : decide (0 < l.length) = false := decide_eq_false h0
    rw [hd]
    rw [show l.length = 0 by omega] at HL
    clear h hd
    go_enter Try.func83, Try.ntmps83
    go_wp2_with (go_at_call 51; refine HL.mono ?_; rintro e w1 ⟨rfl, rfl⟩)
    go_ret2
    exact ⟨rfl, rfl⟩

set_option maxHeartbeats 1000000 in
theorem key_rep {w : World} {p : Nat} {v : Value} {B : Nat} {room : Int} {l : List (It ByteArray)} {when : Int} (h : HRep w p v B room l when (idxF l)) (hK : Keys l) (i : Nat) (hi : i < l.length) :
    Calls Try.prog 103 #[.pointer (some ⟨p, 0, none⟩), .string (at_ l i).v] w fun e w' => e = .returned (.tuple #[.int .i64 (at_ l i).a, .int .i64 (at_ l i).b, .bool true]) ∧ Below w.heap.size w w' := by
  have hz : (zeroValue 3).run Try.prog w = .ok (.int .i64 0) w := by kernel_rfl
  have gi : at_ l i ∈ l := by rw [at_get l i hi]; exact List.getElem_mem _
  have ha := h.good _ gi
  obtain ⟨es, clock, hmap⟩ := h.map
  have hlook := hmap.look keyed Try.underlying119 hz (Go.WideMaps.keyOf_string_mk Try.underlying9 ha) true
  have c2 := (blk_cell h.top 2).trans (rfl : _ = some (Value.map (some B)))
  rw [idxF_at hK hi] at hlook
  simp only [if_true, Option.getD_some, Option.isSome_some] at hlook
  obtain ⟨g, cap, cur, hv, hg, hn, hc, hs, ht, hgp, hgB⟩ := h.open_row (by omega)
  have q1 := (blk_cell hg _).trans (cur_cell ht i 1 hi (by omega))
  have q2 := (blk_cell hg _).trans (cur_cell ht i 2 hi (by omega))
  have q1' : w.cell? ⟨g, i * 4 + 1, none⟩ = some (.int .i64 (at_ l i).a) := q1
  have q2' : w.cell? ⟨g, i * 4 + 2, none⟩ = some (.int .i64 (at_ l i).b) := q2
  obtain ⟨n, hl⟩ : ∃ n, n = l.length := ⟨_, rfl⟩
  rw [← hl] at hv hn hi
  subst hv
  have c1 := (blk_cell h.top 1).trans (rfl : _ = some (Value.slice (some ⟨g, 0, none⟩) n cap))
  have hfew := h.few
  rw [← hl] at hfew
  have hi' : (i : Int) < (n : Int) := by omega
  clear h hl hg ht hmap q1 q2 hK gi
  generalize at_ l i = x at *
  obtain ⟨kv, ka, kb, km⟩ := x
  go_enter Try.func103, Try.ntmps103
  go_wp2_with fail
  go_quiet (fail)
  go_wp2
  go_ret3
  exact ⟨rfl, below_drewN _ _⟩
theorem key_no {w : World} {p : Nat} {v : Value} {B : Nat} {room : Int} {l : List (It ByteArray)} {when : Int} (h : HRep w p v B room l when (idxF l)) (a : ByteArray) (ha : fits a) (hn : ∀ i, i < l.length → (at_ l i).v ≠ a) :
    Calls Try.prog 103 #[.pointer (some ⟨p, 0, none⟩), .string a] w fun e w' => e = .returned (.tuple #[.int .i64 0, .int .i64 0, .bool false]) ∧ w' = w := by
  have hz : (zeroValue 3).run Try.prog w = .ok (.int .i64 0) w := by kernel_rfl
  obtain ⟨es, clock, hmap⟩ := h.map
  have hlook := hmap.look keyed Try.underlying119 hz (Go.WideMaps.keyOf_string_mk Try.underlying9 ha) true
  have c2 := (blk_cell h.top 2).trans (rfl : _ = some (Value.map (some B)))
  rw [idxF_none hn] at hlook
  simp only [if_true, Option.getD_none, Option.isSome_none] at hlook
  clear hn
  go_enter Try.func103, Try.ntmps103
  go_wp2
  go_ret3
  exact ⟨rfl, rfl⟩

theorem new_walk (room : Int) (w : World) (hr : -9223372036854775808 ≤ room ∧ room ≤ 9223372036854775807) : Calls Try.prog 45 #[.int .i64 room] w fun e w' => e = .returned (.pointer (some ⟨w.heap.size + 1, 0, none⟩)) ∧
    w' = (w.alloc (.map #[] 0)).alloc (.cells #[.int .i64 (min (max room 0) 1000), .slice none 0 0, .map (some w.heap.size), .int .i64 0] 122) := by
  have hm : (Instr.makeMap 119 none).run Try.prog w = .ok (.map (some w.heap.size)) (w.alloc (.map #[] 0)) := run_makeMap 119 w
  go_enter Try.func45, Try.ntmps45
  go_wp2
  · have e : min (max room 0) 1000 = 0 := by omega
    rw [e]
    go_ret
    exact ⟨rfl, rfl⟩
  · have e : min (max room 0) 1000 = 1000 := by omega
    rw [e]
    go_ret
    exact ⟨rfl, rfl⟩
  · have e : min (max room 0) 1000 = room := by omega
    rw [e]
    go_ret
    exact ⟨rfl, rfl⟩
theorem new_rep (room : Int) (w : World) (hr : -9223372036854775808 ≤ room ∧ room ≤ 9223372036854775807) : Calls Try.prog 45 #[.int .i64 room] w fun e w' => e = .returned (.pointer (some ⟨w.heap.size + 1, 0, none⟩)) ∧
    HRep w' (w.heap.size + 1) (.slice none 0 0) w.heap.size (min (max room 0) 1000) [] 0 (idxF []) ∧ Below w.heap.size w w' := by
  refine (new_walk room w hr).mono ?_
  rintro e w' ⟨rfl, rfl⟩
  refine ⟨rfl, ⟨?_, ⟨rfl, Or.inl ⟨rfl, rfl⟩⟩, ⟨#[], 0, ?_⟩, fun x hx => (by cases hx), Nat.zero_le _⟩, ?_⟩
  · have := heap_alloc_new (w.alloc (.map #[] 0)) (.cells #[.int .i64 (min (max room 0) 1000), .slice none 0 0, .map (some w.heap.size), .int .i64 0] 122)
    simpa using this
  · have h := (MRep.made w Try.prog 9 Value.string).move (w' := (w.alloc (.map #[] 0)).alloc (.cells #[.int .i64 (min (max room 0) 1000), .slice none 0 0, .map (some w.heap.size), .int .i64 0] 122)) (Below.heap_alloc _ _ _ (by simp))
    exact h
  · exact ((Below.refl _ w).alloc (Nat.le_refl _) _).alloc (by simp) _
end Go.Proofs.Ytpmamgdblbplcaa.Hs

/-! YtpmamgdblbplcaaHSObj -/
namespace Go.Proofs.Ytpmamgdblbplcaa.Hs
open Go.RowKit Go.Proofs.Ytpmamgdblbplcaa.Mp Go.Proofs.Ytpmamgdblbplcaa.HeapModel Go.ChangeMaps
open Go.Proofs.Ytpmamgdblbplcaa.Hp (blk_set heap_drew blk_cell blk_frozen below_drewN int_half ltN)
set_option linter.unusedVariables false
set_option linter.unusedSimpArgs false

/-- A heap at p with room; in it s, in the order in which they were put; F: the blocks that are its own. -/
def HObj (w : World) (F : Nat → Prop) (p : Nat) (room : Int) (s : List (It ByteArray)) (when : Int) : Prop :=
  ∃ l v B, HRep w p v B room l when (idxF l) ∧ Keys l ∧ Hp l ∧ l.Perm s ∧ (∀ k, F k ↔ (k = p ∨ k = B ∨ v.ownBlock = some k)) ∧ chron s ∧ (∀ x ∈ s, x.m ≤ when) ∧ room ≤ 1000 ∧ 0 ≤ when

theorem HRep.own_lt {w : World} {p : Nat} {v : Value} {B : Nat} {room : Int} {l : List (It ByteArray)} {when : Int} {f : ByteArray → Option Value} (h : HRep w p v B room l when f) {k : Nat} (hk : k = p ∨ k = B ∨ v.ownBlock = some k) : k < w.heap.size := by
  obtain ⟨es, clock, hm⟩ := h.map
  rcases hk with rfl | rfl | hk
  · exact (Array.getElem?_eq_some_iff.1 h.top).1
  · exact hm.lt
  · rcases h.row.2 with ⟨q1, q2⟩ | ⟨g, cap, cur, q1, q4, q5, q6⟩
    · subst q1; simp [Value.ownBlock] at hk
    · subst q1
      have e : g = k := by simpa [Value.ownBlock] using hk
      subst e
      exact (Array.getElem?_eq_some_iff.1 q5).1
theorem HRep.move {w w' : World} {p : Nat} {v : Value} {B : Nat} {room : Int} {l : List (It ByteArray)} {when : Int} {f : ByteArray → Option Value} (h : HRep w p v B room l when f)
    (hb : ∀ k, (k = p ∨ k = B ∨ v.ownBlock = some k) → w'.heap[k]? = w.heap[k]?) : HRep w' p v B room l when f := by
  obtain ⟨es, clock, hm⟩ := h.map
  obtain ⟨r1, r2⟩ := h.row
  refine ⟨(hb p (Or.inl rfl)).trans h.top, ⟨r1, ?_⟩, ⟨es, clock, hm.move (hb B (Or.inr (Or.inl rfl)))⟩, h.good, h.few⟩
  rcases r2 with r2 | ⟨g, cap, cur, h3, h4, h5, h6⟩
  · exact Or.inl r2
  · exact Or.inr ⟨g, cap, cur, h3, h4, (hb g (Or.inr (Or.inr (by rw [h3]; rfl)))).trans h5, h6⟩
theorem HObj.lt {w : World} {F : Nat → Prop} {p : Nat} {room : Int} {s : List (It ByteArray)} {when : Int} (h : HObj w F p room s when) {k : Nat} (hk : F k) : k < w.heap.size := by
  obtain ⟨l, v, B, hr, -, -, -, hF, -⟩ := h
  exact hr.own_lt ((hF k).1 hk)
theorem HObj.move {w w' : World} {F : Nat → Prop} {p : Nat} {room : Int} {s : List (It ByteArray)} {when : Int} (h : HObj w F p room s when) (hb : ∀ k, F k → w'.heap[k]? = w.heap[k]?) : HObj w' F p room s when := by
  obtain ⟨l, v, B, hr, hK, hH, hP, hF, hC⟩ := h
  exact ⟨l, v, B, hr.move (fun k hk => hb k ((hF k).2 hk)), hK, hH, hP, hF, hC⟩
theorem HObj.below {w w' : World} {F : Nat → Prop} {p : Nat} {room : Int} {s : List (It ByteArray)} {when : Int} (h : HObj w F p room s when) (hb : Below w.heap.size w w') : HObj w' F p room s when :=
  h.move (fun k hk => hb.block k (h.lt hk))
/-- another thing's blocks were touched -/
theorem HObj.touch {w w' : World} {F G : Nat → Prop} {p : Nat} {room : Int} {s : List (It ByteArray)} {when : Int} (h : HObj w F p room s when) (ht : Hp.Touch G w w') (hd : ∀ k, F k → ¬ G k) : HObj w' F p room s when :=
  h.move (fun k hk => ht.block k (h.lt hk) (hd k hk))

theorem perm_has {l s : List (It ByteArray)} (hp : l.Perm s) (k : ByteArray) : has s k = true ↔ ∃ i, i < l.length ∧ (at_ l i).v = k := by
  rw [has_iff]
  constructor
  · rintro ⟨x, hx, rfl⟩
    obtain ⟨i, hi, rfl⟩ := List.getElem_of_mem (hp.mem_iff.2 hx)
    exact ⟨i, hi, by rw [at_get l i hi]⟩
  · rintro ⟨i, hi, rfl⟩
    exact ⟨at_ l i, hp.mem_iff.1 (by rw [at_get l i hi]; exact List.getElem_mem _), rfl⟩
theorem perm_hasnt {l s : List (It ByteArray)} (hp : l.Perm s) {k : ByteArray} (h : has s k = false) : ∀ i, i < l.length → (at_ l i).v ≠ k := fun i hi e => by
  have := (perm_has hp k).2 ⟨i, hi, e⟩
  rw [h] at this; cases this
theorem dropM_perm {l s : List (It ByteArray)} (hp : l.Perm s) (hK : Keys l) (hH : Hp l) {k : ByteArray} (h : has s k = true) : (dropM l k).2 = true ∧ (dropM l k).1.Perm (without s k) ∧ Hp (dropM l k).1 := by
  obtain ⟨i, hi, rfl⟩ := (perm_has hp k).1 h
  rw [dropM_some hK hi]
  exact ⟨rfl, drop_perm hp hK hi, hp_drop hH hi⟩
theorem keys_of_perm {l s : List (It ByteArray)} (hp : l.Perm s) (h : Keys l) : Keys s := keys_perm h hp.symm
theorem without_keys {s : List (It ByteArray)} (h : Keys s) (k : ByteArray) : Keys (without s k) := by
  unfold Keys at *
  exact h.sublist ((List.filter_sublist).map _)

/-- Drop. -/
theorem obj_drop {w : World} {F : Nat → Prop} {p : Nat} {room : Int} {s : List (It ByteArray)} {when : Int} (h : HObj w F p room s when) (k : ByteArray) (hk : fits k) :
    Calls Try.prog 94 #[.pointer (some ⟨p, 0, none⟩), .string k] w fun e w' => e = .returned (.bool (has s k)) ∧ HObj w' F p room (without s k) when ∧ Hp.Touch F w w' := by
  obtain ⟨l, v, B, hr, hK, hH, hP, hF, hC, hM, hroom, hw⟩ := h
  cases hs : has s k with
  | true =>
    obtain ⟨d1, d2, d3⟩ := dropM_perm hP hK hH hs
    refine (drop_rep hr hK k hk).mono ?_
    rintro e w' ⟨rfl, v', h1, h2, h3⟩
    rw [d1]
    refine ⟨rfl, ⟨_, v', B, h1, keys_perm (without_keys (keys_of_perm hP hK) k) d2, d3, d2, ?_, hC.without, fun x hx => hM x (mem_without.1 hx).1, hroom, hw⟩, h2.mono (fun b _ hb => (hF b).2 hb)⟩
    intro b; rw [h3]; exact hF b
  | false =>
    refine (drop_no hr k hk (perm_hasnt hP hs)).mono ?_
    rintro e w' ⟨rfl, rfl⟩
    rw [without_of_not hs]
    exact ⟨rfl, ⟨l, v, B, hr, hK, hH, hP, hF, hC, hM, hroom, hw⟩, Hp.Touch.refl _ _⟩

/-- Put: it goes. -/
theorem obj_put {w : World} {F : Nat → Prop} {p : Nat} {room : Int} {s : List (It ByteArray)} {when : Int} (h : HObj w F p room s when) (k : ByteArray) (a b : Int) (hk : fits k) (hw' : when < 4611686018427387904) (hr : has s k = true ∨ (s.length : Int) < room) :
    Calls Try.prog 47 #[.pointer (some ⟨p, 0, none⟩), .string k, .int .i64 a, .int .i64 b] w fun e w' => e = .returned (.bool true) ∧
      ∃ F', HObj w' F' p room (without s k ++ [⟨k, a, b, when + 1⟩]) (when + 1) ∧ Hp.Touch F w w' ∧ ∀ b, F' b → F b ∨ w.heap.size ≤ b := by
  obtain ⟨l, v, B, hrep, hK, hH, hP, hF, hC, hM, hroom, hw⟩ := h
  have hC' : chron (without s k ++ [⟨k, a, b, when + 1⟩]) := hC.without.append (fun y hy => by have := hM y (mem_without.1 hy).1; show y.m < when + 1; omega)
  have hM' : ∀ x ∈ without s k ++ [(⟨k, a, b, when + 1⟩ : It ByteArray)], x.m ≤ when + 1 := by
    intro x hx
    rcases List.mem_append.1 hx with hx | hx
    · have := hM x (mem_without.1 hx).1; omega
    · simp only [List.mem_singleton] at hx; subst hx; exact Int.le_refl _
  have fin : ∀ (l1 : List (It ByteArray)) (v' : Value) (w' : World), l1.Perm (without s k) → Hp l1 → HRep w' p v' B room (rise (l1 ++ [⟨k, a, b, when + 1⟩]) l1.length) (when + 1) (idxF (rise (l1 ++ [⟨k, a, b, when + 1⟩]) l1.length)) →
      HObj w' (fun c => c = p ∨ c = B ∨ v'.ownBlock = some c) p room (without s k ++ [⟨k, a, b, when + 1⟩]) (when + 1) := by
    intro l1 v' w' hp1 hh1 hr1
    have hperm : (rise (l1 ++ [(⟨k, a, b, when + 1⟩ : It ByteArray)]) l1.length).Perm (without s k ++ [⟨k, a, b, when + 1⟩]) := (rise_perm _ _ (by simp)).trans (hp1.append_right _)
    refine ⟨_, v', B, hr1, keys_perm ?_ hperm, hp_append hh1 _, hperm, fun _ => Iff.rfl, hC', hM', hroom, by omega⟩
    unfold Keys
    rw [List.map_append]
    refine List.nodup_append.2 ⟨without_keys (keys_of_perm hP hK) k, by simp, fun x hx y hy e => ?_⟩
    simp only [List.map_cons, List.map_nil, List.mem_singleton] at hy
    obtain ⟨z, hz, rfl⟩ := List.mem_map.1 hx
    exact (mem_without.1 hz).2 (e.trans hy)
  cases hs : has s k with
  | true =>
    obtain ⟨d1, d2, d3⟩ := dropM_perm hP hK hH hs
    have hKd : Keys (dropM l k).1 := keys_perm (without_keys (keys_of_perm hP hK) k) d2
    have hlen : (dropM l k).1.length < 1000 := by
      have h1 := d2.length_eq
      have h2 : (without s k).length < s.length := by
        obtain ⟨x, hx, e⟩ := has_iff.1 hs
        unfold without
        rw [List.length_filter_lt_length_iff_exists]
        exact ⟨x, hx, by simp [e]⟩
      have h3 := hP.length_eq
      have h4 := hrep.few
      omega
    have hno : ∀ i, i < (dropM l k).1.length → (at_ (dropM l k).1 i).v ≠ k := by
      refine perm_hasnt d2 (Bool.eq_false_iff.2 (fun hq => ?_))
      obtain ⟨x, hx, e⟩ := has_iff.1 hq
      exact (mem_without.1 hx).2 e
    refine (put_yes hrep hK k a b hk d1 hKd hno hlen hw hw').mono ?_
    rintro e w' ⟨rfl, v', h1, h2, h3⟩
    refine ⟨rfl, _, fin _ v' w' d2 d3 h1, h2.mono (fun b _ hb => (hF b).2 hb), ?_⟩
    rintro c (rfl | rfl | hc)
    · exact Or.inl ((hF _).2 (Or.inl rfl))
    · exact Or.inl ((hF _).2 (Or.inr (Or.inl rfl)))
    · exact (h3 c hc).imp (fun h => (hF _).2 (Or.inr (Or.inr h))) id
  | false =>
    have hr' : (l.length : Int) < room := by
      rcases hr with hr | hr
      · rw [hs] at hr; cases hr
      · rw [hP.length_eq]; exact hr
    refine (put_no hrep hK k a b hk (perm_hasnt hP hs) hr' hroom hw hw').mono ?_
    rintro e w' ⟨rfl, v', h1, h2, h3⟩
    refine ⟨rfl, _, fin l v' w' (by rw [without_of_not hs]; exact hP) hH h1, h2.mono (fun b _ hb => (hF b).2 hb), ?_⟩
    rintro c (rfl | rfl | hc)
    · exact Or.inl ((hF _).2 (Or.inl rfl))
    · exact Or.inl ((hF _).2 (Or.inr (Or.inl rfl)))
    · exact (h3 c hc).imp (fun h => (hF _).2 (Or.inr (Or.inr h))) id
/-- Put: it is full. -/
theorem obj_full {w : World} {F : Nat → Prop} {p : Nat} {room : Int} {s : List (It ByteArray)} {when : Int} (h : HObj w F p room s when) (k : ByteArray) (a b : Int) (hk : fits k) (hs : has s k = false) (hr : ¬ (s.length : Int) < room) :
    Calls Try.prog 47 #[.pointer (some ⟨p, 0, none⟩), .string k, .int .i64 a, .int .i64 b] w fun e w' => e = .returned (.bool false) ∧ HObj w' F p room s when ∧ Below w.heap.size w w' := by
  have h0 := h
  obtain ⟨l, v, B, hrep, hK, hH, hP, hF, hC, hM, hroom, hw⟩ := h
  refine (put_full hrep k a b hk (perm_hasnt hP hs) (by rw [hP.length_eq]; exact hr)).mono ?_
  rintro e w' ⟨rfl, hb⟩
  exact ⟨rfl, h0.below hb, hb⟩
theorem obj_len {w : World} {F : Nat → Prop} {p : Nat} {room : Int} {s : List (It ByteArray)} {when : Int} (h : HObj w F p room s when) :
    Calls Try.prog 51 #[.pointer (some ⟨p, 0, none⟩)] w fun e w' => e = .returned (.int .i64 s.length) ∧ w' = w := by
  obtain ⟨l, v, B, hrep, hK, hH, hP, hF, hC, hM, hroom, hw⟩ := h
  rw [← hP.length_eq]
  exact len_rep hrep
theorem first_of {l s : List (It ByteArray)} (hH : Hp l) (hP : l.Perm s) (hC : chron s) (h0 : 0 < l.length) : least s = some (at_ l 0) := by
  refine least_unique hC (hP.mem_iff.1 (by rw [at_get l 0 h0]; exact List.getElem_mem _)) (fun y hy => ?_)
  obtain ⟨i, hi, rfl⟩ := List.getElem_of_mem (hP.mem_iff.2 hy)
  have := hp_first l hH i hi
  rw [at_get l i hi] at this
  exact this
def firstV (s : List (It ByteArray)) : ByteArray := match least s with | none => ByteArray.empty | some x => x.v
theorem obj_first {w : World} {F : Nat → Prop} {p : Nat} {room : Int} {s : List (It ByteArray)} {when : Int} (h : HObj w F p room s when) :
    Calls Try.prog 83 #[.pointer (some ⟨p, 0, none⟩)] w fun e w' => e = .returned (.tuple #[.string (firstV s), .bool (least s).isSome]) ∧ w' = w := by
  obtain ⟨l, v, B, hrep, hK, hH, hP, hF, hC, hM, hroom, hw⟩ := h
  refine (first_rep hrep).mono ?_
  rintro e w' ⟨rfl, rfl⟩
  refine ⟨?_, rfl⟩
  by_cases h0 : 0 < l.length
  · have hf := first_of hH hP hC h0
    unfold firstV
    rw [hf, if_pos h0, decide_eq_true h0]; rfl
  · have e0 : l = [] := List.length_eq_zero_iff.1 (by omega)
    subst e0
    have e1 : s = [] := List.nil_perm.1 hP
    subst e1
    rfl
theorem obj_key {w : World} {F : Nat → Prop} {p : Nat} {room : Int} {s : List (It ByteArray)} {when : Int} (h : HObj w F p room s when) (x : It ByteArray) (hx : x ∈ s) :
    Calls Try.prog 103 #[.pointer (some ⟨p, 0, none⟩), .string x.v] w fun e w' => e = .returned (.tuple #[.int .i64 x.a, .int .i64 x.b, .bool true]) ∧ HObj w' F p room s when ∧ Below w.heap.size w w' := by
  have h0 := h
  obtain ⟨l, v, B, hrep, hK, hH, hP, hF, hC, hM, hroom, hw⟩ := h
  obtain ⟨i, hi, e⟩ := List.getElem_of_mem (hP.mem_iff.2 hx)
  have e2 : at_ l i = x := (at_get l i hi).trans e
  rw [← e2]
  refine (key_rep hrep hK i hi).mono ?_
  rintro e w' ⟨rfl, hb⟩
  exact ⟨rfl, h0.below hb, hb⟩
theorem obj_keyless {w : World} {F : Nat → Prop} {p : Nat} {room : Int} {s : List (It ByteArray)} {when : Int} (h : HObj w F p room s when) (k : ByteArray) (hk : fits k) (hs : has s k = false) :
    Calls Try.prog 103 #[.pointer (some ⟨p, 0, none⟩), .string k] w fun e w' => e = .returned (.tuple #[.int .i64 0, .int .i64 0, .bool false]) ∧ w' = w := by
  obtain ⟨l, v, B, hrep, hK, hH, hP, hF, hC, hM, hroom, hw⟩ := h
  exact key_no hrep k hk (perm_hasnt hP hs)
theorem HObj.fit {w : World} {F : Nat → Prop} {p : Nat} {room : Int} {s : List (It ByteArray)} {when : Int} (h : HObj w F p room s when) {x : It ByteArray} (hx : x ∈ s) : fits x.v := by
  obtain ⟨l, v, B, hrep, hK, hH, hP, hF, hC, hM, hroom, hw⟩ := h
  exact hrep.good x (hP.mem_iff.2 hx)
theorem HObj.few {w : World} {F : Nat → Prop} {p : Nat} {room : Int} {s : List (It ByteArray)} {when : Int} (h : HObj w F p room s when) : s.length ≤ 1000 := by
  obtain ⟨l, v, B, hrep, hK, hH, hP, hF, hC, hM, hroom, hw⟩ := h
  rw [← hP.length_eq]; exact hrep.few
theorem HObj.keys {w : World} {F : Nat → Prop} {p : Nat} {room : Int} {s : List (It ByteArray)} {when : Int} (h : HObj w F p room s when) : Keys s := by
  obtain ⟨l, v, B, hrep, hK, hH, hP, hF, hC, hM, hroom, hw⟩ := h
  exact keys_of_perm hP hK
theorem HObj.chron {w : World} {F : Nat → Prop} {p : Nat} {room : Int} {s : List (It ByteArray)} {when : Int} (h : HObj w F p room s when) : HeapModel.chron s := by
  obtain ⟨l, v, B, hrep, hK, hH, hP, hF, hC, hM, hroom, hw⟩ := h
  exact hC
theorem HObj.at_p {w : World} {F : Nat → Prop} {p : Nat} {room : Int} {s : List (It ByteArray)} {when : Int} (h : HObj w F p room s when) : F p := by
  obtain ⟨l, v, B, hrep, hK, hH, hP, hF, hC, hM, hroom, hw⟩ := h
  exact (hF p).2 (Or.inl rfl)
theorem obj_take {w : World} {F : Nat → Prop} {p : Nat} {room : Int} {s : List (It ByteArray)} {when : Int} (h : HObj w F p room s when) :
    Calls Try.prog 49 #[.pointer (some ⟨p, 0, none⟩)] w fun e w' => e = .returned (.tuple #[.string (firstV s), .bool (least s).isSome]) ∧ HObj w' F p room (match least s with | none => s | some x => without s x.v) when ∧ Hp.Touch F w w' := by
  have HF := obj_first h
  cases c : least s with
  | none =>
    rw [c] at HF
    have e0 : firstV s = ByteArray.empty := by unfold firstV; rw [c]
    rw [e0] at HF ⊢
    have H := Lib.hid h
    clear h
    go_enter Try.func49, Try.ntmps49
    go_wp2_with (go_at_call 83; refine HF.mono ?_; rintro e w1 ⟨rfl, rfl⟩)
    go_ret2
    exact ⟨rfl, H.out, Hp.Touch.refl _ _⟩
  | some x =>
    rw [c] at HF
    have hx := (least_spec c).1
    have e0 : firstV s = x.v := by unfold firstV; rw [c]
    rw [e0] at HF ⊢
    have HD := obj_drop h x.v (h.fit hx)
    have hh : has s x.v = true := has_iff.2 ⟨x, hx, rfl⟩
    rw [hh] at HD
    have H := Lib.hid HD
    clear h HD
    go_enter Try.func49, Try.ntmps49
    go_wp2_with (first
      | (go_at_call 83; refine HF.mono ?_; rintro e w1 ⟨rfl, rfl⟩)
      | (go_at_call 94; refine H.out.mono ?_; rintro e w1 ⟨rfl, h1, h2⟩))
    go_ret2
    exact ⟨rfl, h1, h2⟩
theorem obj_new (room : Int) (w : World) (hr : -9223372036854775808 ≤ room ∧ room ≤ 9223372036854775807) : Calls Try.prog 45 #[.int .i64 room] w fun e w' => e = .returned (.pointer (some ⟨w.heap.size + 1, 0, none⟩)) ∧
    HObj w' (fun k => k = w.heap.size + 1 ∨ k = w.heap.size) (w.heap.size + 1) (min (max room 0) 1000) [] 0 ∧ Below w.heap.size w w' := by
  refine (new_rep room w hr).mono ?_
  rintro e w' ⟨rfl, h1, h2⟩
  refine ⟨rfl, ⟨[], _, _, h1, List.nodup_nil, fun j _ hj => by simp at hj, List.Perm.refl _, fun k => ?_, List.Pairwise.nil, fun x hx => (by cases hx), by omega, Int.le_refl _⟩, h2⟩
  simp [Value.ownBlock]
end Go.Proofs.Ytpmamgdblbplcaa.Hs
