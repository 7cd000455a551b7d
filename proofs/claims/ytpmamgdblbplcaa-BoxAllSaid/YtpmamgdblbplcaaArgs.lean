/- A slice of numbers that came in: what it reads. -/
import Derived.Test.YtpmamgdblbplcaaOne
import Derived.OpenShut
import Derived.WalkArith
import Derived.StillTailTactics
namespace Go.Proofs.Ytpmamgdblbplcaa.On
open Go.RowKit
set_option linter.unusedVariables false
def IsRow (k : IntKind) (w : World) (a : Option Addr) (len cap : Nat) (zs : List Int) : Prop :=
  (a = none ∧ len = 0 ∧ cap = 0 ∧ zs = []) ∨
  ∃ x, a = some x ∧ len ≤ cap ∧ cap ≤ maxLen ∧ zs.length = cap ∧ (∀ i, i < zs.length → w.cell? (x.add i) = some (.int k (zs.getD i 0))) ∧ ∀ n ∈ zs, (Lit.int k n).wf = true
theorem IsRow.len_le {k : IntKind} {w : World} {a : Option Addr} {len cap : Nat} {zs : List Int} (h : IsRow k w a len cap zs) : len ≤ zs.length ∧ len ≤ maxLen ∧ len ≤ cap ∧ cap ≤ maxLen := by
  rcases h with ⟨_, rfl, rfl, rfl⟩ | ⟨x, _, h1, h2, h3, _⟩
  · simp
  · omega
theorem cell_block {w : World} {p : Addr} {v : Value} (h : w.cell? p = some v) : p.block < w.heap.size := by
  have : ¬ w.heap.size ≤ p.block := by
    intro hc
    unfold World.cell? at h
    rw [Array.getElem?_eq_none hc] at h
    cases h
  omega
theorem IsRow.at {k : IntKind} {w0 w : World} {a : Option Addr} {len cap : Nat} {zs : List Int} (h : IsRow k w0 a len cap zs) (hb : Below w0.heap.size w0 w) (j : Nat) (hj : j < len) : ∃ x, a = some x ∧ w.cell? (x.add j) = some (.int k (zs.getD j 0)) := by
  rcases h with ⟨_, rfl, _, _⟩ | ⟨x, h0, h1, h2, h3, h4, _⟩
  · omega
  · have hc := h4 j (by omega)
    exact ⟨x, h0, (hb.cell (cell_block hc)).trans hc⟩
theorem IsRow.cell {k : IntKind} {w0 w : World} {x : Addr} {len cap : Nat} {zs : List Int} (h : IsRow k w0 (some x) len cap zs) (hb : Below w0.heap.size w0 w) (j : Nat) (hj : j < len) : w.cell? (x.add j) = some (.int k (zs.getD j 0)) := by
  obtain ⟨y, hy, hc⟩ := h.at hb j hj
  cases hy
  exact hc
theorem IsRow.wf {k : IntKind} {w : World} {a : Option Addr} {len cap : Nat} {zs : List Int} (h : IsRow k w a len cap zs) (j : Nat) (hj : j < len) : (Lit.int k (zs.getD j 0)).wf = true := by
  rcases h with ⟨_, rfl, _, _⟩ | ⟨x, h0, h1, h2, h3, h4, h5⟩
  · omega
  · refine h5 _ ?_
    rw [List.getD_eq_getElem?_getD, List.getElem?_eq_getElem (by omega)]
    exact List.getElem_mem _
theorem iEq {a b : Int} (h : a = b) : Value.int .i64 a = .int .i64 b := by rw [h]
end Go.Proofs.Ytpmamgdblbplcaa.On
