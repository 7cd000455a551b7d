/- What a mask leaves; an array that lies by itself. -/
import Derived.Test.YtpmamgdblbplcaaArgs
import Derived.Laws.BitsLemmas
namespace Go.Proofs.Ytpmamgdblbplcaa.On
open Go.RowKit
set_option linter.unusedVariables false
theorem band_range (x : Int) (c : Nat) (hc : c < 4611686018427387904) : 0 ≤ bits .and .i64 x (c : Int) ∧ bits .and .i64 x (c : Int) ≤ (c : Int) := by
  have e : bits .and .i64 x (c : Int) = IntKind.i64.wrap (((BitVec.ofInt IntKind.i64.bits x).toNat &&& c : Nat) : Int) := by
    have hb : c % 2 ^ IntKind.i64.bits = c := Nat.mod_eq_of_lt (by simp [IntKind.bits]; omega)
    simp only [bits, BitVec.toNat_and, BitVec.ofInt_natCast, BitVec.toNat_ofNat, hb]
  have h1 : (BitVec.ofInt IntKind.i64.bits x).toNat &&& c ≤ c := Nat.and_le_right
  rw [e, IntKind.wrap_i64]
  omega
theorem band127 (x : Int) : 0 ≤ bits BinOp.and IntKind.i64 x 127 ∧ bits BinOp.and IntKind.i64 x 127 ≤ 127 := band_range x 127 (by omega)
theorem band31 (x : Int) : 0 ≤ bits BinOp.and IntKind.i64 x 31 ∧ bits BinOp.and IntKind.i64 x 31 ≤ 31 := band_range x 31 (by omega)
theorem band15 (x : Int) : 0 ≤ bits BinOp.and IntKind.i64 x 15 ∧ bits BinOp.and IntKind.i64 x 15 ≤ 15 := band_range x 15 (by omega)
theorem band1 (x : Int) : 0 ≤ bits BinOp.and IntKind.i64 x 1 ∧ bits BinOp.and IntKind.i64 x 1 ≤ 1 := band_range x 1 (by omega)
theorem band1023 (x : Int) : 0 ≤ bits BinOp.and IntKind.i64 x 1023 ∧ bits BinOp.and IntKind.i64 x 1023 ≤ 1023 := band_range x 1023 (by omega)

/-! ### an array -/
def ArrV (w : World) (G : Nat) (e : TypeId) (vs : List Value) : Prop := w.heap[G]? = some (.cells vs.toArray e (0, 0))
section
variable {w w' : World} {G : Nat} {e : TypeId} {vs : List Value}
theorem ArrV.lt (h : ArrV w G e vs) : G < w.heap.size := (Array.getElem?_eq_some_iff.1 h).1
theorem ArrV.cell (h : ArrV w G e vs) (k : Nat) : w.cell? ⟨G, k, none⟩ = vs[k]? := (Hp.blk_cell h k).trans (by simp)
theorem ArrV.frozen (h : ArrV w G e vs) (k : Nat) : w.frozen? ⟨G, k, none⟩ = false := Hp.blk_frozen h k
theorem ArrV.set (h : ArrV w G e vs) (k : Nat) (u : Value) : ArrV (w.setCell ⟨G, k, none⟩ u) G e (vs.set k u) := by
  have := Hp.blk_set h k u
  rw [List.setIfInBounds_toArray] at this
  exact this
theorem ArrV.move (h : ArrV w G e vs) (hb : w'.heap[G]? = w.heap[G]?) : ArrV w' G e vs := hb.trans h
theorem ArrV.below (h : ArrV w G e vs) (hb : Below w.heap.size w w') : ArrV w' G e vs := h.move (hb.block G h.lt)
theorem ArrV.touch {F : Nat → Prop} (h : ArrV w G e vs) (ht : Hp.Touch F w w') (hF : ¬ F G) : ArrV w' G e vs := h.move (ht.block G h.lt hF)
theorem made_one (z : Value) (n : Nat) : (madeCells #[z] n).toList = List.replicate n z := by
  apply List.ext_getElem
  · simp [madeCells]
  · intro i h1 h2
    simp [madeCells, Nat.mod_one]
theorem arr_made {base : Nat} {z : Value} {n : Nat} {W : World} (hz : z.cells = #[z]) (r1 : W.ownsRow base e 1 (.slice (some ⟨w.heap.size, 0, none⟩) n n) n (madeCells z.cells (n * 1)).toList) : ArrV W w.heap.size e (List.replicate n z) := by
  rw [hz, made_one, Nat.mul_one] at r1
  rcases r1.2 with ⟨h2, h3⟩ | ⟨g, cap, cur, h2, h4, h5, h6, h7, h8, h9⟩
  · cases h2
  · simp only [Value.slice.injEq, Option.some.injEq, Addr.mk.injEq, and_true] at h2
    obtain ⟨rfl, -, rfl⟩ := h2
    have e1 : cur.toList = List.replicate n z := by
      rw [← h9, List.take_of_length_le (by simp; omega)]
    have e2 : cur = (List.replicate n z).toArray := by rw [← e1]
    rw [e2] at h5
    exact h5
end
end Go.Proofs.Ytpmamgdblbplcaa.On
