/-
  No cell of these rows narrows 'for every input' (looked for: loops, veiled, ifaces, maps, wideKeys, modest, calm, conditions, laid).
  DERIVED. THE GIVEN ROWS OF THIS SEAT. 8 by the template 'for every input the law returns true; each argument reads behind the call as it read before'; 0 by the template 'total and deterministic' (their statements: YtjkicgbmdloomaaTotals.lean).
  GIVEN WITH THE SEED: the statements are not yours to turn. If you find one false, say at which input.
  Laid BY PROGRAM, IN A SANDBOX (cutbox-rows.mjs): the forced cells as the released guide's own fill.sh prints them over the translation 54b6f452b8bd18da… (all of the seat's roots in one cut). By AI agents, Wed Nov 11 2026. No macro, syntax, notation, axiom, sorry.
-/
import Derived.Test.YtjkicgbmdloomaaChecked
import GoSem.Claim
import GoSem.ClaimJoined
import GoSem.ClaimMapViews
import Derived.JoinedTies
import Derived.KernelRfl
namespace Go.Proofs.Ytjkicgbmdloomaa
/- THE CELL 'sum', in the pinned program and in every row, IS THE sha256 OF THE DUMP (.gsa) THAT YtjkicgbmdloomaaProg.lean LOADS. Nothing in Lean hashes anything: it is a label: what it is worth is what the hold of that sum in a sandbox is worth. -/
noncomputable def Try.pinned : Pinned := { name := "ytjkicgbmdloomaa", sum := "54b6f452b8bd18daf509220803093d6f6e6229aafe9c5c289bb232be8694005f", checked := Try.checked }
namespace Rows
def none {H : Type} : Left H := { results := [], args := [] }

/-- 'hortatorlaw0.Names': WHATEVER THE INPUT: true; the input reads as it did. -/
def namesSpec : ChangeSpec := { name := "names", fn := fun _ => fun
  | [] => { results := [.lit (.bool true)], args := [] }
  | _ => none }
def namesRow : OpenClaim := { program := "ytjkicgbmdloomaa", sum := "54b6f452b8bd18daf509220803093d6f6e6229aafe9c5c289bb232be8694005f", func := "hortator/hortatorlaw0.Names", spec := "names", apart := false }
def NamesSaid : Prop := namesRow.holds Try.pinned (OpenSpec.ofChange namesSpec)

/-- ITS FALSE NEIGHBOUR: 'it returns false'. Refute it at one input. -/
def namesWrong : ChangeSpec := { name := "names", fn := fun _ => fun
  | [] => { results := [.lit (.bool false)], args := [] }
  | _ => none }
def NamesWrongFalsely : Prop := namesRow.holds Try.pinned (OpenSpec.ofChange namesWrong)

/-- 'hortatorlaw1.TickAll': WHATEVER THE INPUT: true; the input reads as it did. -/
def tickAllSpec : ChangeSpec := { name := "tickAll", fn := fun _ => fun
  | [d1, d2, d3, d4] => { results := [.lit (.bool true)], args := [d1, d2, d3, d4] }
  | _ => none }
def tickAllRow : OpenClaim := { program := "ytjkicgbmdloomaa", sum := "54b6f452b8bd18daf509220803093d6f6e6229aafe9c5c289bb232be8694005f", func := "hortator/hortatorlaw1.TickAll", spec := "tickAll", inPlace := ["math/bits.Add64"], apart := false }
def TickAllSaid : Prop := tickAllRow.holds Try.pinned (OpenSpec.ofChange tickAllSpec)

/-- ITS FALSE NEIGHBOUR: 'it returns false'. Refute it at one input. -/
def tickAllWrong : ChangeSpec := { name := "tickAll", fn := fun _ => fun
  | [d1, d2, d3, d4] => { results := [.lit (.bool false)], args := [d1, d2, d3, d4] }
  | _ => none }
def TickAllWrongFalsely : Prop := tickAllRow.holds Try.pinned (OpenSpec.ofChange tickAllWrong)

/-- 'hortatorlaw1.TickSum': WHATEVER THE INPUT: true; the input reads as it did. -/
def tickSumSpec : ChangeSpec := { name := "tickSum", fn := fun _ => fun
  | [d] => { results := [.lit (.bool true)], args := [d] }
  | _ => none }
def tickSumRow : OpenClaim := { program := "ytjkicgbmdloomaa", sum := "54b6f452b8bd18daf509220803093d6f6e6229aafe9c5c289bb232be8694005f", func := "hortator/hortatorlaw1.TickSum", spec := "tickSum", inPlace := ["math/bits.Add64"], apart := false }
def TickSumSaid : Prop := tickSumRow.holds Try.pinned (OpenSpec.ofChange tickSumSpec)

/-- ITS FALSE NEIGHBOUR: 'it returns false'. Refute it at one input. -/
def tickSumWrong : ChangeSpec := { name := "tickSum", fn := fun _ => fun
  | [d] => { results := [.lit (.bool false)], args := [d] }
  | _ => none }
def TickSumWrongFalsely : Prop := tickSumRow.holds Try.pinned (OpenSpec.ofChange tickSumWrong)

/-- 'hortatorlaw1.TickRound': WHATEVER THE INPUT: true; the input reads as it did. -/
def tickRoundSpec : ChangeSpec := { name := "tickRound", fn := fun _ => fun
  | [d1, d2, d3] => { results := [.lit (.bool true)], args := [d1, d2, d3] }
  | _ => none }
def tickRoundRow : OpenClaim := { program := "ytjkicgbmdloomaa", sum := "54b6f452b8bd18daf509220803093d6f6e6229aafe9c5c289bb232be8694005f", func := "hortator/hortatorlaw1.TickRound", spec := "tickRound", inPlace := ["math/bits.Add64"], apart := false }
def TickRoundSaid : Prop := tickRoundRow.holds Try.pinned (OpenSpec.ofChange tickRoundSpec)

/-- ITS FALSE NEIGHBOUR: 'it returns false'. Refute it at one input. -/
def tickRoundWrong : ChangeSpec := { name := "tickRound", fn := fun _ => fun
  | [d1, d2, d3] => { results := [.lit (.bool false)], args := [d1, d2, d3] }
  | _ => none }
def TickRoundWrongFalsely : Prop := tickRoundRow.holds Try.pinned (OpenSpec.ofChange tickRoundWrong)

/-- 'hortatorlaw1.TickLess': WHATEVER THE INPUT: true; the input reads as it did. -/
def tickLessSpec : ChangeSpec := { name := "tickLess", fn := fun _ => fun
  | [d1, d2, d3, d4, d5, d6] => { results := [.lit (.bool true)], args := [d1, d2, d3, d4, d5, d6] }
  | _ => none }
def tickLessRow : OpenClaim := { program := "ytjkicgbmdloomaa", sum := "54b6f452b8bd18daf509220803093d6f6e6229aafe9c5c289bb232be8694005f", func := "hortator/hortatorlaw1.TickLess", spec := "tickLess", inPlace := ["math/bits.Add64"], apart := false }
def TickLessSaid : Prop := tickLessRow.holds Try.pinned (OpenSpec.ofChange tickLessSpec)

/-- ITS FALSE NEIGHBOUR: 'it returns false'. Refute it at one input. -/
def tickLessWrong : ChangeSpec := { name := "tickLess", fn := fun _ => fun
  | [d1, d2, d3, d4, d5, d6] => { results := [.lit (.bool false)], args := [d1, d2, d3, d4, d5, d6] }
  | _ => none }
def TickLessWrongFalsely : Prop := tickLessRow.holds Try.pinned (OpenSpec.ofChange tickLessWrong)

/-- 'hortatorlaw1.TickSame': WHATEVER THE INPUT: true; the input reads as it did. -/
def tickSameSpec : ChangeSpec := { name := "tickSame", fn := fun _ => fun
  | [d1, d2, d3, d4] => { results := [.lit (.bool true)], args := [d1, d2, d3, d4] }
  | _ => none }
def tickSameRow : OpenClaim := { program := "ytjkicgbmdloomaa", sum := "54b6f452b8bd18daf509220803093d6f6e6229aafe9c5c289bb232be8694005f", func := "hortator/hortatorlaw1.TickSame", spec := "tickSame", inPlace := ["math/bits.Add64"], apart := false }
def TickSameSaid : Prop := tickSameRow.holds Try.pinned (OpenSpec.ofChange tickSameSpec)

/-- ITS FALSE NEIGHBOUR: 'it returns false'. Refute it at one input. -/
def tickSameWrong : ChangeSpec := { name := "tickSame", fn := fun _ => fun
  | [d1, d2, d3, d4] => { results := [.lit (.bool false)], args := [d1, d2, d3, d4] }
  | _ => none }
def TickSameWrongFalsely : Prop := tickSameRow.holds Try.pinned (OpenSpec.ofChange tickSameWrong)

/-- 'hortatorlaw1.TickEdges': WHATEVER THE INPUT: true; the input reads as it did. -/
def tickEdgesSpec : ChangeSpec := { name := "tickEdges", fn := fun _ => fun
  | [d1, d2] => { results := [.lit (.bool true)], args := [d1, d2] }
  | _ => none }
def tickEdgesRow : OpenClaim := { program := "ytjkicgbmdloomaa", sum := "54b6f452b8bd18daf509220803093d6f6e6229aafe9c5c289bb232be8694005f", func := "hortator/hortatorlaw1.TickEdges", spec := "tickEdges", inPlace := ["math/bits.Add64"], apart := false }
def TickEdgesSaid : Prop := tickEdgesRow.holds Try.pinned (OpenSpec.ofChange tickEdgesSpec)

/-- ITS FALSE NEIGHBOUR: 'it returns false'. Refute it at one input. -/
def tickEdgesWrong : ChangeSpec := { name := "tickEdges", fn := fun _ => fun
  | [d1, d2] => { results := [.lit (.bool false)], args := [d1, d2] }
  | _ => none }
def TickEdgesWrongFalsely : Prop := tickEdgesRow.holds Try.pinned (OpenSpec.ofChange tickEdgesWrong)

/-- 'hortatorlaw1.TickDown': WHATEVER THE INPUT: true; the input reads as it did. -/
def tickDownSpec : ChangeSpec := { name := "tickDown", fn := fun _ => fun
  | [d1, d2] => { results := [.lit (.bool true)], args := [d1, d2] }
  | _ => none }
def tickDownRow : OpenClaim := { program := "ytjkicgbmdloomaa", sum := "54b6f452b8bd18daf509220803093d6f6e6229aafe9c5c289bb232be8694005f", func := "hortator/hortatorlaw1.TickDown", spec := "tickDown", inPlace := ["math/bits.Add64"], apart := false }
def TickDownSaid : Prop := tickDownRow.holds Try.pinned (OpenSpec.ofChange tickDownSpec)

/-- ITS FALSE NEIGHBOUR: 'it returns false'. Refute it at one input. -/
def tickDownWrong : ChangeSpec := { name := "tickDown", fn := fun _ => fun
  | [d1, d2] => { results := [.lit (.bool false)], args := [d1, d2] }
  | _ => none }
def TickDownWrongFalsely : Prop := tickDownRow.holds Try.pinned (OpenSpec.ofChange tickDownWrong)

/- THE SECOND FORM. 'bulk': how many values and letters a reading holds, each counted each time it is reached (what is shared counts as often as it is met; a slice's spare places count too). A statement '..UptoSaid' is the law's where the arguments, and the package variables that the reading takes, are together of bulk at most 1048576: NARROWER than '..Said'. Prove '..Said' where nothing that the law and all that it calls make is longer than what came in: it says more and counts as full. Else prove '..UptoSaid'. A law counts once. -/
mutual
def uptoBulk {H : Type} : DataW H → Nat
  | .lit (.string bytes) => bytes.length + 1
  | .lit _ => 1
  | .nil => 1
  | .ptr d => uptoBulk d + 1
  | .slice elems spare => uptoBulkAll elems + uptoBulkAll spare + 1
  | .agg parts => uptoBulkAll parts + 1
  | .iface _ d => uptoBulk d + 1
  | .map entries => uptoBulkEntries entries + 1
  | .held _ => 1
def uptoBulkAll {H : Type} : List (DataW H) → Nat
  | [] => 0
  | d :: r => uptoBulk d + uptoBulkAll r
def uptoBulkEntries {H : Type} : List (Lit × DataW H) → Nat
  | [] => 0
  | x :: r => uptoBulkEntry x + uptoBulkEntries r
def uptoBulkEntry {H : Type} : Lit × DataW H → Nat
  | (.string bytes, d) => bytes.length + uptoBulk d + 1
  | (_, d) => uptoBulk d + 1
 end
def uptoSmall : (H : Type) → List (DataW H) → Bool := fun _ ds => decide (uptoBulkAll ds ≤ 1048576)
def OpenSpec.upto (s : _root_.Go.ChangeSpec) : _root_.Go.OpenSpec := { _root_.Go.OpenSpec.ofChange s with cond := some uptoSmall }

/-- 'hortatorlaw0.Names', WHERE WHAT IT READS IS OF BULK AT MOST 1048576: true; the input reads as it did. -/
def namesUptoRow : OpenClaim := { program := "ytjkicgbmdloomaa", sum := "54b6f452b8bd18daf509220803093d6f6e6229aafe9c5c289bb232be8694005f", func := "hortator/hortatorlaw0.Names", spec := "names", apart := false, narrowed := true }
def NamesUptoSaid : Prop := namesUptoRow.holds Try.pinned (OpenSpec.upto namesSpec)

/-- 'hortatorlaw1.TickAll', WHERE WHAT IT READS IS OF BULK AT MOST 1048576: true; the input reads as it did. -/
def tickAllUptoRow : OpenClaim := { program := "ytjkicgbmdloomaa", sum := "54b6f452b8bd18daf509220803093d6f6e6229aafe9c5c289bb232be8694005f", func := "hortator/hortatorlaw1.TickAll", spec := "tickAll", inPlace := ["math/bits.Add64"], apart := false, narrowed := true }
def TickAllUptoSaid : Prop := tickAllUptoRow.holds Try.pinned (OpenSpec.upto tickAllSpec)

/-- 'hortatorlaw1.TickSum', WHERE WHAT IT READS IS OF BULK AT MOST 1048576: true; the input reads as it did. -/
def tickSumUptoRow : OpenClaim := { program := "ytjkicgbmdloomaa", sum := "54b6f452b8bd18daf509220803093d6f6e6229aafe9c5c289bb232be8694005f", func := "hortator/hortatorlaw1.TickSum", spec := "tickSum", inPlace := ["math/bits.Add64"], apart := false, narrowed := true }
def TickSumUptoSaid : Prop := tickSumUptoRow.holds Try.pinned (OpenSpec.upto tickSumSpec)

/-- 'hortatorlaw1.TickRound', WHERE WHAT IT READS IS OF BULK AT MOST 1048576: true; the input reads as it did. -/
def tickRoundUptoRow : OpenClaim := { program := "ytjkicgbmdloomaa", sum := "54b6f452b8bd18daf509220803093d6f6e6229aafe9c5c289bb232be8694005f", func := "hortator/hortatorlaw1.TickRound", spec := "tickRound", inPlace := ["math/bits.Add64"], apart := false, narrowed := true }
def TickRoundUptoSaid : Prop := tickRoundUptoRow.holds Try.pinned (OpenSpec.upto tickRoundSpec)

/-- 'hortatorlaw1.TickLess', WHERE WHAT IT READS IS OF BULK AT MOST 1048576: true; the input reads as it did. -/
def tickLessUptoRow : OpenClaim := { program := "ytjkicgbmdloomaa", sum := "54b6f452b8bd18daf509220803093d6f6e6229aafe9c5c289bb232be8694005f", func := "hortator/hortatorlaw1.TickLess", spec := "tickLess", inPlace := ["math/bits.Add64"], apart := false, narrowed := true }
def TickLessUptoSaid : Prop := tickLessUptoRow.holds Try.pinned (OpenSpec.upto tickLessSpec)

/-- 'hortatorlaw1.TickSame', WHERE WHAT IT READS IS OF BULK AT MOST 1048576: true; the input reads as it did. -/
def tickSameUptoRow : OpenClaim := { program := "ytjkicgbmdloomaa", sum := "54b6f452b8bd18daf509220803093d6f6e6229aafe9c5c289bb232be8694005f", func := "hortator/hortatorlaw1.TickSame", spec := "tickSame", inPlace := ["math/bits.Add64"], apart := false, narrowed := true }
def TickSameUptoSaid : Prop := tickSameUptoRow.holds Try.pinned (OpenSpec.upto tickSameSpec)

/-- 'hortatorlaw1.TickEdges', WHERE WHAT IT READS IS OF BULK AT MOST 1048576: true; the input reads as it did. -/
def tickEdgesUptoRow : OpenClaim := { program := "ytjkicgbmdloomaa", sum := "54b6f452b8bd18daf509220803093d6f6e6229aafe9c5c289bb232be8694005f", func := "hortator/hortatorlaw1.TickEdges", spec := "tickEdges", inPlace := ["math/bits.Add64"], apart := false, narrowed := true }
def TickEdgesUptoSaid : Prop := tickEdgesUptoRow.holds Try.pinned (OpenSpec.upto tickEdgesSpec)

/-- 'hortatorlaw1.TickDown', WHERE WHAT IT READS IS OF BULK AT MOST 1048576: true; the input reads as it did. -/
def tickDownUptoRow : OpenClaim := { program := "ytjkicgbmdloomaa", sum := "54b6f452b8bd18daf509220803093d6f6e6229aafe9c5c289bb232be8694005f", func := "hortator/hortatorlaw1.TickDown", spec := "tickDown", inPlace := ["math/bits.Add64"], apart := false, narrowed := true }
def TickDownUptoSaid : Prop := tickDownUptoRow.holds Try.pinned (OpenSpec.upto tickDownSpec)

end Rows
end Go.Proofs.Ytjkicgbmdloomaa
