/- A slice of numbers that came in: what it reads. -/
import Derived.Test.YtddepomgaeadpaaGreatDoorProg
import Derived.WalkKit
import Derived.Below
import Derived.RowKit3
import Derived.Deep.Slices
import Derived.Deep.Fields
import Derived.ChangeSame
import Derived.OpenShut
import Derived.WalkArith
import Derived.StillTailTactics
namespace Go.Proofs.YtddepomgaeadpaaGreatDoor.On
open Go.RowKit
set_option linter.unusedVariables false
def IsRow (k : IntKind) (w : World) (a : Option Addr) (len cap : Nat) (zs : List Int) : Prop :=
  (a = none ∧ len = 0 ∧ cap = 0 ∧ zs = []) ∨
  ∃ x, a = some x ∧ len ≤ cap ∧ cap ≤ maxLen ∧ zs.length = cap ∧ (∀ i, i < zs.length → w.cell? (x.add i) = some (.int k (zs.getD i 0))) ∧ ∀ n ∈ zs, (Lit.int k n).wf = true
theorem IsRow.len_le {k : IntKind} {w : World} {a : Option Addr} {len cap : Nat} {zs : List Int} (h : IsRow k w a len cap zs) : len ≤ zs.length ∧ len ≤ maxLen ∧ len ≤ cap ∧ cap ≤ maxLen := by
  rcases h with ⟨_, rfl, rfl, rfl⟩ | ⟨x, _, h1, h2, h3, _⟩
  · simp
  · omega
theorem cell_block {w : World} {p : Addr} {v : Value} (h : w.cell? p = some v) : p.block < w.heap.size := by
  have : ¬ w.heap.size ≤ p.block := by
    intro hc
    unfold World.cell? at h
    rw [Array.getElem?_eq_none hc] at h
    cases h
  omega
theorem IsRow.at {k : IntKind} {w0 w : World} {a : Option Addr} {len cap : Nat} {zs : List Int} (h : IsRow k w0 a len cap zs) (hb : Below w0.heap.size w0 w) (j : Nat) (hj : j < len) : ∃ x, a = some x ∧ w.cell? (x.add j) = some (.int k (zs.getD j 0)) := by
  rcases h with ⟨_, rfl, _, _⟩ | ⟨x, h0, h1, h2, h3, h4, _⟩
  · omega
  · have hc := h4 j (by omega)
    exact ⟨x, h0, (hb.cell (cell_block hc)).trans hc⟩
theorem IsRow.cell {k : IntKind} {w0 w : World} {x : Addr} {len cap : Nat} {zs : List Int} (h : IsRow k w0 (some x) len cap zs) (hb : Below w0.heap.size w0 w) (j : Nat) (hj : j < len) : w.cell? (x.add j) = some (.int k (zs.getD j 0)) := by
  obtain ⟨y, hy, hc⟩ := h.at hb j hj
  cases hy
  exact hc
theorem IsRow.wf {k : IntKind} {w : World} {a : Option Addr} {len cap : Nat} {zs : List Int} (h : IsRow k w a len cap zs) (j : Nat) (hj : j < len) : (Lit.int k (zs.getD j 0)).wf = true := by
  rcases h with ⟨_, rfl, _, _⟩ | ⟨x, h0, h1, h2, h3, h4, h5⟩
  · omega
  · refine h5 _ ?_
    rw [List.getD_eq_getElem?_getD, List.getElem?_eq_getElem (by omega)]
    exact List.getElem_mem _
end Go.Proofs.YtddepomgaeadpaaGreatDoor.On
namespace Go.Proofs.YtddepomgaeadpaaGreatDoor.On
open Go.RowKit
set_option linter.unusedVariables false
/-- m numbers an element: F i j is field j of element i -/
def IsRec (m : Nat) (w : World) (x : Option Addr) (len cap : Nat) (F : Nat → Nat → Int) : Prop :=
  (x = none ∧ len = 0 ∧ cap = 0) ∨
  ∃ a, x = some a ∧ len ≤ cap ∧ cap ≤ maxLen ∧ ∀ i j, i < len → j < m → w.cell? (a.add (i * m + j)) = some (.int .i64 (F i j)) ∧ (Lit.int .i64 (F i j)).wf = true
section
open Go.ChangeShapes Go.WideShapes Go.Deep
variable {H : Type} {enc : TypeId × Value → H} {P : Program} {w : World} {base : Nat} {spare : Nat → Bool} {held : Bool}
theorem open_recs {t e : TypeId} {fs : Array Field} {fuel : Nat} {cs : List Value} {x : DataW H × List MemPlace} (ht : P.underlying t = some (.slice e)) (he : P.underlying e = some (.struct fs))
    (hone : oneCellFields P fs = true) (hC : P.cellsOf e = fs.size) (hint : ∀ (j : Nat) (f : Field), fs[j]? = some f → P.underlying f.type = some (.int .i64)) (h : DataW.trod enc P w base spare held fuel t cs = some x) :
    cs = [.slice none 0 0] ∨ ∃ (a : Addr) (len cap : Nat) (F : Nat → Nat → Int), cs = [.slice (some a) len cap] ∧ IsRec fs.size w (some a) len cap F := by
  rcases open_slice ht h with ⟨h0, _⟩ | ⟨a, len, cap, m, n, D, Pl, hcs, hb, hl, hm, hmm, hx, hi⟩
  · exact .inl h0
  · right
    have hlm : len ≤ m := by rw [hmm]; split <;> omega
    have key : ∀ i j, i < len → j < fs.size → ∃ z : Int, w.cell? (a.add (i * fs.size + j)) = some (.int .i64 z) ∧ (Lit.int .i64 z).wf = true := by
      intro i j hil hj
      obtain ⟨cs', hc, hs⟩ := hi i (by omega)
      rw [hC] at hc
      obtain ⟨ys, n', _, _, hcl, hyl, hf⟩ := DataW.trod_struct he hs
      obtain ⟨_, hlen, hat⟩ := World.cells?_some hc
      have hfj : fs[j]? = some fs[j] := Array.getElem?_eq_getElem hj
      obtain ⟨ho, hk⟩ := hone_of hone j _ hfj
      have h1 := hf j _ hfj
      rw [ho, hk] at h1
      have hys : ys[j]? = some (ys[j]'(by omega)) := List.getElem?_eq_getElem (by omega)
      rw [hys] at h1
      obtain ⟨z, hz, _, hw⟩ := DataW.trod_int (hint j _ hfj) h1
      refine ⟨z, ?_, hw⟩
      have h2 := hat j hj
      rw [add_add] at h2
      rw [h2]
      have h3 : ((cs'.drop j).take 1)[0]? = some (.int .i64 z) := by rw [hz]; rfl
      rw [List.getElem?_take] at h3
      simpa using h3
    have : ∀ i j, ∃ z : Int, i < len → j < fs.size → w.cell? (a.add (i * fs.size + j)) = some (.int .i64 z) ∧ (Lit.int .i64 z).wf = true := by
      intro i j
      by_cases c : i < len ∧ j < fs.size
      · obtain ⟨z, hz⟩ := key i j c.1 c.2
        exact ⟨z, fun _ _ => hz⟩
      · exact ⟨0, fun c1 c2 => absurd ⟨c1, c2⟩ c⟩
    refine ⟨a, len, cap, fun i j => (this i j).choose, hcs, .inr ⟨a, rfl, hl, hm, fun i j c1 c2 => (this i j).choose_spec c1 c2⟩⟩
end
section
variable {m : Nat} {w0 w : World} {x : Option Addr} {len cap : Nat} {F : Nat → Nat → Int}
theorem IsRec.len_le (h : IsRec m w x len cap F) : len ≤ maxLen ∧ len ≤ cap ∧ cap ≤ maxLen := by
  rcases h with ⟨_, rfl, rfl⟩ | ⟨a, _, h1, h2, _⟩
  · simp
  · omega
theorem IsRec.at (h : IsRec m w0 x len cap F) (i : Nat) (hi : i < len) : ∃ a, x = some a ∧ ∀ w, Below w0.heap.size w0 w → ∀ j, j < m → w.cell? (a.add (i * m + j)) = some (.int .i64 (F i j)) := by
  rcases h with ⟨_, rfl, _⟩ | ⟨a, h0, h1, h2, h3⟩
  · omega
  · exact ⟨a, h0, fun w hb j hj => (hb.cell (cell_block (h3 i j hi hj).1)).trans (h3 i j hi hj).1⟩
theorem IsRec.wf (h : IsRec m w x len cap F) (i j : Nat) (hi : i < len) (hj : j < m) : (Lit.int .i64 (F i j)).wf = true := by
  rcases h with ⟨_, rfl, _⟩ | ⟨a, h0, h1, h2, h3⟩
  · omega
  · exact (h3 i j hi hj).2
end
end Go.Proofs.YtddepomgaeadpaaGreatDoor.On
