/- What stands in the row that []byte(s) made, one byte of it turned: words for NoteAny's walk. -/
import Derived.Test.YtjjlicancbmjiaaGreatDoorWn
import Derived.Lib.ConvBytes
import Derived.Lib.AtoiErrMem
import Derived.Laws.BytesArg
namespace Go.Proofs.YtjjlicancbmjiaaGreatDoor.PNeg
open Go.RowKit Go.Proofs.YtjjlicancbmjiaaGreatDoorW.PrintWords Go.Proofs.YtjjlicancbmjiaaGreatDoorW.PrintLast Go.Proofs.YtjjlicancbmjiaaGreatDoorW.PrintMore
def numsOf (s : ByteArray) : List Int := s.data.toList.map fun b => (b.toNat : Int)
theorem numsOf_len (s : ByteArray) : (numsOf s).length = s.size := by unfold numsOf; rw [List.length_map]; rfl
def turnB.f (a0 : ByteArray) (a1 : Int) (a2 : Int) : Option (List Int) := if 0 < a0.size then (if a0.size ≤ 1000 then (if 0 ≤ a1 then some ((numsOf a0).set (Int.tmod a1 (a0.size : Int)).toNat (Go.bits .xor .u8 (rd (numsOf a0) (Int.tmod a1 (a0.size : Int))) a2)) else none) else none) else none
theorem turnB.of {a0 : ByteArray} {a1 a2 : Int} {r : List Int} (h : turnB.f a0 a1 a2 = some r) : 0 < a0.size ∧ a0.size ≤ 1000 ∧ 0 ≤ a1 ∧ (numsOf a0).set (Int.tmod a1 (a0.size : Int)).toNat (Go.bits .xor .u8 (rd (numsOf a0) (Int.tmod a1 (a0.size : Int))) a2) = r := by
  unfold turnB.f at h
  split at h
  · split at h
    · split at h
      · exact ⟨by assumption, by assumption, by assumption, Option.some.inj h⟩
      · cases h
    · cases h
  · cases h
/-- Block g is a row of bytes: xs, whatever stands behind them. -/
def BR (w : World) (base g : Nat) (xs : List Int) : Prop := base ≤ g ∧ ∃ cs m, w.heap[g]? = some (.cells cs 5 (m, m + 1)) ∧ xs.length ≤ m ∧ ∀ j, j < xs.length → cs[j]? = some (.int .u8 (xs.getD j 0))
theorem BR.lt {w : World} {base g : Nat} {xs : List Int} (h : BR w base g xs) : g < w.heap.size := by
  obtain ⟨_, cs, m, hg, _⟩ := h
  exact (Array.getElem?_eq_some_iff.1 hg).1
theorem BR.below {w w1 : World} {base g : Nat} {xs : List Int} (h : BR w base g xs) (hb : Below w.heap.size w w1) : BR w1 base g xs := by
  have hl := h.lt
  obtain ⟨h0, cs, m, hg, hm, hc⟩ := h
  exact ⟨h0, cs, m, (hb.block g hl).trans hg, hm, hc⟩
theorem BR.drew {w : World} {base g : Nat} {xs : List Int} (h : BR w base g xs) : BR w.drew base g xs := h
theorem BR.cell {w : World} {base g : Nat} {xs : List Int} (h : BR w base g xs) (j : Nat) (hj : j < xs.length) : w.cell? ⟨g, j, none⟩ = some (.int .u8 (xs.getD j 0)) := by
  obtain ⟨_, cs, m, hg, hm, hc⟩ := h
  simp [World.cell?, hg, hc j hj]
theorem BR.free {w : World} {base g : Nat} {xs : List Int} (h : BR w base g xs) (j : Nat) (hj : j < xs.length) : w.frozen? ⟨g, j, none⟩ = false := by
  obtain ⟨_, cs, m, hg, hm, hc⟩ := h
  have : ¬ m ≤ j := by omega
  simp [World.frozen?, hg, this]
theorem BR.put {w : World} {base g : Nat} {xs : List Int} (h : BR w base g xs) (j : Nat) (hj : j < xs.length) (v : Int) : BR (w.setCell ⟨g, j, none⟩ (.int .u8 v)) base g (xs.set j v) := by
  have hl := h.lt
  obtain ⟨h0, cs, m, hg, hm, hc⟩ := h
  refine ⟨h0, cs.setIfInBounds j (.int .u8 v), m, ?_, by simpa using hm, fun i hi => ?_⟩
  · have hg' : w.heap[g] = .cells cs 5 (m, m + 1) := by rw [Array.getElem?_eq_getElem hl] at hg; exact Option.some.inj hg
    simp [World.setCell, Array.getElem?_modify, hg]
  · rw [List.length_set] at hi
    have := hc i hi
    by_cases e : j = i
    · subst e
      have hs : j < cs.size := (Array.getElem?_eq_some_iff.1 this).1
      simp [hs, hj]
    · rw [Array.getElem?_setIfInBounds_ne e, this]
      simp [List.getElem?_set_ne e]
theorem BR.string {P : Program} {w : World} {base g : Nat} {xs : List Int} (h : BR w base g xs) {n : Nat} (hn : xs.length = n) {src dst : TypeId} (hs : P.underlying src = some (.slice 5)) (he : P.underlying 5 = some (.int .u8)) (hd : P.underlying dst = some .string) (c : Nat) :
    (convert src dst (.slice (some ⟨g, 0, none⟩) n c)).run P w = .ok (.string (strOfNums xs)) w :=
  run_convert_bytes_arg w src 5 hs he g 0 n c xs hn (fun i hi => by rw [Nat.zero_add]; exact h.cell i (by omega)) dst hd
theorem BR.made (w0 : World) (base : Nat) (hb : base ≤ w0.heap.size) (s : ByteArray) : BR (Lib.bytesWorld w0 5 s) base w0.heap.size (numsOf s) := by
  refine ⟨hb, _, _, Lib.bytesWorld_at_new w0 5 s, ?_, fun j hj => ?_⟩
  · rw [numsOf_len]; simp [Lib.bytesCells]
  · have hj' : j < s.size := by rw [numsOf_len] at hj; exact hj
    have hd : s.data[j]? = some s.data[j] := Array.getElem?_eq_getElem hj'
    simp only [Lib.bytesCells, Array.getElem?_append, numsOf, List.getD_eq_getElem?_getD]
    simp [hj']
end Go.Proofs.YtjjlicancbmjiaaGreatDoor.PNeg
