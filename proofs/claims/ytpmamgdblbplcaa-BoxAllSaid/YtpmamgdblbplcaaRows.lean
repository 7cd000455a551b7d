/-
  No cell of these rows narrows 'for every input' (looked for: loops, veiled, ifaces, maps, wideKeys, modest, calm, conditions, laid).
  DERIVED. THE GIVEN ROWS OF THIS SEAT. 19 by the template 'for every input the law returns true; each argument reads behind the call as it read before'; 0 by the template 'total and deterministic' (their statements: YtpmamgdblbplcaaTotals.lean).
  GIVEN WITH THE SEED: the statements are not yours to turn. If you find one false, say at which input.
  Laid BY PROGRAM, IN A SANDBOX (cutbox-rows.mjs): the forced cells as the released guide's own fill.sh prints them over the translation b3f3c083f19129e1… (all of the seat's roots in one cut). By AI agents, Wed Nov 11 2026. No macro, syntax, notation, axiom, sorry.
-/
import Derived.Test.YtpmamgdblbplcaaChecked
import GoSem.Claim
import GoSem.ClaimJoined
import GoSem.ClaimMapViews
import Derived.JoinedTies
import Derived.KernelRfl
namespace Go.Proofs.Ytpmamgdblbplcaa
/- THE CELL 'sum', in the pinned program and in every row, IS THE sha256 OF THE DUMP (.gsa) THAT YtpmamgdblbplcaaProg.lean LOADS. Nothing in Lean hashes anything: it is a label: what it is worth is what the hold of that sum in a sandbox is worth. -/
noncomputable def Try.pinned : Pinned := { name := "ytpmamgdblbplcaa", sum := "b3f3c083f19129e194526fccdf73e7545a1cdd3490004f5efb980cd129743bf8", checked := Try.checked }
namespace Rows
def none {H : Type} : Left H := { results := [], args := [] }

/-- 'hortatorlaw2.HeapAll': WHATEVER THE INPUT: true; the input reads as it did. -/
def heapAllSpec : ChangeSpec := { name := "heapAll", fn := fun _ => fun
  | [d1, d2] => { results := [.lit (.bool true)], args := [d1, d2] }
  | _ => none }
def heapAllRow : OpenClaim := { program := "ytpmamgdblbplcaa", sum := "b3f3c083f19129e194526fccdf73e7545a1cdd3490004f5efb980cd129743bf8", func := "hortator/hortatorlaw2.HeapAll", spec := "heapAll", inPlace := ["math/bits.Add64"], plainKeys := false, apart := false }
def HeapAllSaid : Prop := heapAllRow.holds Try.pinned (OpenSpec.ofChange heapAllSpec)

/-- ITS FALSE NEIGHBOUR: 'it returns false'. Refute it at one input. -/
def heapAllWrong : ChangeSpec := { name := "heapAll", fn := fun _ => fun
  | [d1, d2] => { results := [.lit (.bool false)], args := [d1, d2] }
  | _ => none }
def HeapAllWrongFalsely : Prop := heapAllRow.holds Try.pinned (OpenSpec.ofChange heapAllWrong)

/-- 'hortatorlaw2.HeapSort': WHATEVER THE INPUT: true; the input reads as it did. -/
def heapSortSpec : ChangeSpec := { name := "heapSort", fn := fun _ => fun
  | [d] => { results := [.lit (.bool true)], args := [d] }
  | _ => none }
def heapSortRow : OpenClaim := { program := "ytpmamgdblbplcaa", sum := "b3f3c083f19129e194526fccdf73e7545a1cdd3490004f5efb980cd129743bf8", func := "hortator/hortatorlaw2.HeapSort", spec := "heapSort", inPlace := ["math/bits.Add64"], plainKeys := false, apart := false }
def HeapSortSaid : Prop := heapSortRow.holds Try.pinned (OpenSpec.ofChange heapSortSpec)

/-- ITS FALSE NEIGHBOUR: 'it returns false'. Refute it at one input. -/
def heapSortWrong : ChangeSpec := { name := "heapSort", fn := fun _ => fun
  | [d] => { results := [.lit (.bool false)], args := [d] }
  | _ => none }
def HeapSortWrongFalsely : Prop := heapSortRow.holds Try.pinned (OpenSpec.ofChange heapSortWrong)

/-- 'hortatorlaw2.BoxAll': WHATEVER THE INPUT: true; the input reads as it did. -/
def boxAllSpec : ChangeSpec := { name := "boxAll", fn := fun _ => fun
  | [d1, d2, d3] => { results := [.lit (.bool true)], args := [d1, d2, d3] }
  | _ => none }
def boxAllRow : OpenClaim := { program := "ytpmamgdblbplcaa", sum := "b3f3c083f19129e194526fccdf73e7545a1cdd3490004f5efb980cd129743bf8", func := "hortator/hortatorlaw2.BoxAll", spec := "boxAll", inPlace := ["math/bits.Add64"], plainKeys := false, apart := false }
def BoxAllSaid : Prop := boxAllRow.holds Try.pinned (OpenSpec.ofChange boxAllSpec)

/-- ITS FALSE NEIGHBOUR: 'it returns false'. Refute it at one input. -/
def boxAllWrong : ChangeSpec := { name := "boxAll", fn := fun _ => fun
  | [d1, d2, d3] => { results := [.lit (.bool false)], args := [d1, d2, d3] }
  | _ => none }
def BoxAllWrongFalsely : Prop := boxAllRow.holds Try.pinned (OpenSpec.ofChange boxAllWrong)

/-- 'hortatorlaw2.HeapKeys': WHATEVER THE INPUT: true; the input reads as it did. -/
def heapKeysSpec : ChangeSpec := { name := "heapKeys", fn := fun _ => fun
  | [d1, d2, d3] => { results := [.lit (.bool true)], args := [d1, d2, d3] }
  | _ => none }
def heapKeysRow : OpenClaim := { program := "ytpmamgdblbplcaa", sum := "b3f3c083f19129e194526fccdf73e7545a1cdd3490004f5efb980cd129743bf8", func := "hortator/hortatorlaw2.HeapKeys", spec := "heapKeys", inPlace := ["math/bits.Add64"], plainKeys := false, apart := false }
def HeapKeysSaid : Prop := heapKeysRow.holds Try.pinned (OpenSpec.ofChange heapKeysSpec)

/-- ITS FALSE NEIGHBOUR: 'it returns false'. Refute it at one input. -/
def heapKeysWrong : ChangeSpec := { name := "heapKeys", fn := fun _ => fun
  | [d1, d2, d3] => { results := [.lit (.bool false)], args := [d1, d2, d3] }
  | _ => none }
def HeapKeysWrongFalsely : Prop := heapKeysRow.holds Try.pinned (OpenSpec.ofChange heapKeysWrong)

/-- 'hortatorlaw2.RingTurn': WHATEVER THE INPUT: true; the input reads as it did. -/
def ringTurnSpec : ChangeSpec := { name := "ringTurn", fn := fun _ => fun
  | [d1, d2] => { results := [.lit (.bool true)], args := [d1, d2] }
  | _ => none }
def ringTurnRow : OpenClaim := { program := "ytpmamgdblbplcaa", sum := "b3f3c083f19129e194526fccdf73e7545a1cdd3490004f5efb980cd129743bf8", func := "hortator/hortatorlaw2.RingTurn", spec := "ringTurn", inPlace := ["math/bits.Add64"], plainKeys := false, apart := false }
def RingTurnSaid : Prop := ringTurnRow.holds Try.pinned (OpenSpec.ofChange ringTurnSpec)

/-- ITS FALSE NEIGHBOUR: 'it returns false'. Refute it at one input. -/
def ringTurnWrong : ChangeSpec := { name := "ringTurn", fn := fun _ => fun
  | [d1, d2] => { results := [.lit (.bool false)], args := [d1, d2] }
  | _ => none }
def RingTurnWrongFalsely : Prop := ringTurnRow.holds Try.pinned (OpenSpec.ofChange ringTurnWrong)

/-- 'hortatorlaw2.HeapRoom': WHATEVER THE INPUT: true; the input reads as it did. -/
def heapRoomSpec : ChangeSpec := { name := "heapRoom", fn := fun _ => fun
  | [d1, d2] => { results := [.lit (.bool true)], args := [d1, d2] }
  | _ => none }
def heapRoomRow : OpenClaim := { program := "ytpmamgdblbplcaa", sum := "b3f3c083f19129e194526fccdf73e7545a1cdd3490004f5efb980cd129743bf8", func := "hortator/hortatorlaw2.HeapRoom", spec := "heapRoom", inPlace := ["math/bits.Add64"], plainKeys := false, apart := false }
def HeapRoomSaid : Prop := heapRoomRow.holds Try.pinned (OpenSpec.ofChange heapRoomSpec)

/-- ITS FALSE NEIGHBOUR: 'it returns false'. Refute it at one input. -/
def heapRoomWrong : ChangeSpec := { name := "heapRoom", fn := fun _ => fun
  | [d1, d2] => { results := [.lit (.bool false)], args := [d1, d2] }
  | _ => none }
def HeapRoomWrongFalsely : Prop := heapRoomRow.holds Try.pinned (OpenSpec.ofChange heapRoomWrong)

/-- 'hortatorlaw2.HeapTexts': WHATEVER THE INPUT: true; the input reads as it did. -/
def heapTextsSpec : ChangeSpec := { name := "heapTexts", fn := fun _ => fun
  | [d1, d2] => { results := [.lit (.bool true)], args := [d1, d2] }
  | _ => none }
def heapTextsRow : OpenClaim := { program := "ytpmamgdblbplcaa", sum := "b3f3c083f19129e194526fccdf73e7545a1cdd3490004f5efb980cd129743bf8", func := "hortator/hortatorlaw2.HeapTexts", spec := "heapTexts", inPlace := ["math/bits.Add64"], plainKeys := false, apart := false }
def HeapTextsSaid : Prop := heapTextsRow.holds Try.pinned (OpenSpec.ofChange heapTextsSpec)

/-- ITS FALSE NEIGHBOUR: 'it returns false'. Refute it at one input. -/
def heapTextsWrong : ChangeSpec := { name := "heapTexts", fn := fun _ => fun
  | [d1, d2] => { results := [.lit (.bool false)], args := [d1, d2] }
  | _ => none }
def HeapTextsWrongFalsely : Prop := heapTextsRow.holds Try.pinned (OpenSpec.ofChange heapTextsWrong)

/-- 'hortatorlaw2.RingOwn': WHATEVER THE INPUT: true; the input reads as it did. -/
def ringOwnSpec : ChangeSpec := { name := "ringOwn", fn := fun _ => fun
  | [d1, d2] => { results := [.lit (.bool true)], args := [d1, d2] }
  | _ => none }
def ringOwnRow : OpenClaim := { program := "ytpmamgdblbplcaa", sum := "b3f3c083f19129e194526fccdf73e7545a1cdd3490004f5efb980cd129743bf8", func := "hortator/hortatorlaw2.RingOwn", spec := "ringOwn", inPlace := ["math/bits.Add64"], plainKeys := false, apart := false }
def RingOwnSaid : Prop := ringOwnRow.holds Try.pinned (OpenSpec.ofChange ringOwnSpec)

/-- ITS FALSE NEIGHBOUR: 'it returns false'. Refute it at one input. -/
def ringOwnWrong : ChangeSpec := { name := "ringOwn", fn := fun _ => fun
  | [d1, d2] => { results := [.lit (.bool false)], args := [d1, d2] }
  | _ => none }
def RingOwnWrongFalsely : Prop := ringOwnRow.holds Try.pinned (OpenSpec.ofChange ringOwnWrong)

/-- 'hortatorlaw2.BoxFull': WHATEVER THE INPUT: true; the input reads as it did. -/
def boxFullSpec : ChangeSpec := { name := "boxFull", fn := fun _ => fun
  | [d1, d2] => { results := [.lit (.bool true)], args := [d1, d2] }
  | _ => none }
def boxFullRow : OpenClaim := { program := "ytpmamgdblbplcaa", sum := "b3f3c083f19129e194526fccdf73e7545a1cdd3490004f5efb980cd129743bf8", func := "hortator/hortatorlaw2.BoxFull", spec := "boxFull", inPlace := ["math/bits.Add64"], plainKeys := false, apart := false }
def BoxFullSaid : Prop := boxFullRow.holds Try.pinned (OpenSpec.ofChange boxFullSpec)

/-- ITS FALSE NEIGHBOUR: 'it returns false'. Refute it at one input. -/
def boxFullWrong : ChangeSpec := { name := "boxFull", fn := fun _ => fun
  | [d1, d2] => { results := [.lit (.bool false)], args := [d1, d2] }
  | _ => none }
def BoxFullWrongFalsely : Prop := boxFullRow.holds Try.pinned (OpenSpec.ofChange boxFullWrong)

/-- 'hortatorlaw2.BoxEither': WHATEVER THE INPUT: true; the input reads as it did. -/
def boxEitherSpec : ChangeSpec := { name := "boxEither", fn := fun _ => fun
  | [d1, d2] => { results := [.lit (.bool true)], args := [d1, d2] }
  | _ => none }
def boxEitherRow : OpenClaim := { program := "ytpmamgdblbplcaa", sum := "b3f3c083f19129e194526fccdf73e7545a1cdd3490004f5efb980cd129743bf8", func := "hortator/hortatorlaw2.BoxEither", spec := "boxEither", inPlace := ["math/bits.Add64"], plainKeys := false, apart := false }
def BoxEitherSaid : Prop := boxEitherRow.holds Try.pinned (OpenSpec.ofChange boxEitherSpec)

/-- ITS FALSE NEIGHBOUR: 'it returns false'. Refute it at one input. -/
def boxEitherWrong : ChangeSpec := { name := "boxEither", fn := fun _ => fun
  | [d1, d2] => { results := [.lit (.bool false)], args := [d1, d2] }
  | _ => none }
def BoxEitherWrongFalsely : Prop := boxEitherRow.holds Try.pinned (OpenSpec.ofChange boxEitherWrong)

/-- 'hortatorlaw2.HeapDrop': WHATEVER THE INPUT: true; the input reads as it did. -/
def heapDropSpec : ChangeSpec := { name := "heapDrop", fn := fun _ => fun
  | [d1, d2] => { results := [.lit (.bool true)], args := [d1, d2] }
  | _ => none }
def heapDropRow : OpenClaim := { program := "ytpmamgdblbplcaa", sum := "b3f3c083f19129e194526fccdf73e7545a1cdd3490004f5efb980cd129743bf8", func := "hortator/hortatorlaw2.HeapDrop", spec := "heapDrop", inPlace := ["math/bits.Add64"], plainKeys := false, apart := false }
def HeapDropSaid : Prop := heapDropRow.holds Try.pinned (OpenSpec.ofChange heapDropSpec)

/-- ITS FALSE NEIGHBOUR: 'it returns false'. Refute it at one input. -/
def heapDropWrong : ChangeSpec := { name := "heapDrop", fn := fun _ => fun
  | [d1, d2] => { results := [.lit (.bool false)], args := [d1, d2] }
  | _ => none }
def HeapDropWrongFalsely : Prop := heapDropRow.holds Try.pinned (OpenSpec.ofChange heapDropWrong)

/-- 'hortatorlaw2.RingAll': WHATEVER THE INPUT: true; the input reads as it did. -/
def ringAllSpec : ChangeSpec := { name := "ringAll", fn := fun _ => fun
  | [d1, d2] => { results := [.lit (.bool true)], args := [d1, d2] }
  | _ => none }
def ringAllRow : OpenClaim := { program := "ytpmamgdblbplcaa", sum := "b3f3c083f19129e194526fccdf73e7545a1cdd3490004f5efb980cd129743bf8", func := "hortator/hortatorlaw2.RingAll", spec := "ringAll", inPlace := ["math/bits.Add64"], plainKeys := false, apart := false }
def RingAllSaid : Prop := ringAllRow.holds Try.pinned (OpenSpec.ofChange ringAllSpec)

/-- ITS FALSE NEIGHBOUR: 'it returns false'. Refute it at one input. -/
def ringAllWrong : ChangeSpec := { name := "ringAll", fn := fun _ => fun
  | [d1, d2] => { results := [.lit (.bool false)], args := [d1, d2] }
  | _ => none }
def RingAllWrongFalsely : Prop := ringAllRow.holds Try.pinned (OpenSpec.ofChange ringAllWrong)

/-- 'hortatorlaw2.LineOrder': WHATEVER THE INPUT: true; the input reads as it did. -/
def lineOrderSpec : ChangeSpec := { name := "lineOrder", fn := fun _ => fun
  | [d1, d2] => { results := [.lit (.bool true)], args := [d1, d2] }
  | _ => none }
def lineOrderRow : OpenClaim := { program := "ytpmamgdblbplcaa", sum := "b3f3c083f19129e194526fccdf73e7545a1cdd3490004f5efb980cd129743bf8", func := "hortator/hortatorlaw2.LineOrder", spec := "lineOrder", inPlace := ["math/bits.Add64"], plainKeys := false, apart := false }
def LineOrderSaid : Prop := lineOrderRow.holds Try.pinned (OpenSpec.ofChange lineOrderSpec)

/-- ITS FALSE NEIGHBOUR: 'it returns false'. Refute it at one input. -/
def lineOrderWrong : ChangeSpec := { name := "lineOrder", fn := fun _ => fun
  | [d1, d2] => { results := [.lit (.bool false)], args := [d1, d2] }
  | _ => none }
def LineOrderWrongFalsely : Prop := lineOrderRow.holds Try.pinned (OpenSpec.ofChange lineOrderWrong)

/-- 'hortatorlaw2.LineAll': WHATEVER THE INPUT: true; the input reads as it did. -/
def lineAllSpec : ChangeSpec := { name := "lineAll", fn := fun _ => fun
  | [d1, d2] => { results := [.lit (.bool true)], args := [d1, d2] }
  | _ => none }
def lineAllRow : OpenClaim := { program := "ytpmamgdblbplcaa", sum := "b3f3c083f19129e194526fccdf73e7545a1cdd3490004f5efb980cd129743bf8", func := "hortator/hortatorlaw2.LineAll", spec := "lineAll", inPlace := ["math/bits.Add64"], plainKeys := false, apart := false }
def LineAllSaid : Prop := lineAllRow.holds Try.pinned (OpenSpec.ofChange lineAllSpec)

/-- ITS FALSE NEIGHBOUR: 'it returns false'. Refute it at one input. -/
def lineAllWrong : ChangeSpec := { name := "lineAll", fn := fun _ => fun
  | [d1, d2] => { results := [.lit (.bool false)], args := [d1, d2] }
  | _ => none }
def LineAllWrongFalsely : Prop := lineAllRow.holds Try.pinned (OpenSpec.ofChange lineAllWrong)

/-- 'hortatorlaw2.LineAgain': WHATEVER THE INPUT: true; the input reads as it did. -/
def lineAgainSpec : ChangeSpec := { name := "lineAgain", fn := fun _ => fun
  | [d1, d2, d3] => { results := [.lit (.bool true)], args := [d1, d2, d3] }
  | _ => none }
def lineAgainRow : OpenClaim := { program := "ytpmamgdblbplcaa", sum := "b3f3c083f19129e194526fccdf73e7545a1cdd3490004f5efb980cd129743bf8", func := "hortator/hortatorlaw2.LineAgain", spec := "lineAgain", inPlace := ["math/bits.Add64"], plainKeys := false, apart := false }
def LineAgainSaid : Prop := lineAgainRow.holds Try.pinned (OpenSpec.ofChange lineAgainSpec)

/-- ITS FALSE NEIGHBOUR: 'it returns false'. Refute it at one input. -/
def lineAgainWrong : ChangeSpec := { name := "lineAgain", fn := fun _ => fun
  | [d1, d2, d3] => { results := [.lit (.bool false)], args := [d1, d2, d3] }
  | _ => none }
def LineAgainWrongFalsely : Prop := lineAgainRow.holds Try.pinned (OpenSpec.ofChange lineAgainWrong)

/-- 'hortatorlaw2.Zeroes': WHATEVER THE INPUT: true; the input reads as it did. -/
def zeroesSpec : ChangeSpec := { name := "zeroes", fn := fun _ => fun
  | [d] => { results := [.lit (.bool true)], args := [d] }
  | _ => none }
def zeroesRow : OpenClaim := { program := "ytpmamgdblbplcaa", sum := "b3f3c083f19129e194526fccdf73e7545a1cdd3490004f5efb980cd129743bf8", func := "hortator/hortatorlaw2.Zeroes", spec := "zeroes", inPlace := ["math/bits.Add64"], plainKeys := false, apart := false }
def ZeroesSaid : Prop := zeroesRow.holds Try.pinned (OpenSpec.ofChange zeroesSpec)

/-- ITS FALSE NEIGHBOUR: 'it returns false'. Refute it at one input. -/
def zeroesWrong : ChangeSpec := { name := "zeroes", fn := fun _ => fun
  | [d] => { results := [.lit (.bool false)], args := [d] }
  | _ => none }
def ZeroesWrongFalsely : Prop := zeroesRow.holds Try.pinned (OpenSpec.ofChange zeroesWrong)

/-- 'hortatorlaw2.SeatTurn': WHATEVER THE INPUT: true; the input reads as it did. -/
def seatTurnSpec : ChangeSpec := { name := "seatTurn", fn := fun _ => fun
  | [d1, d2] => { results := [.lit (.bool true)], args := [d1, d2] }
  | _ => none }
def seatTurnRow : OpenClaim := { program := "ytpmamgdblbplcaa", sum := "b3f3c083f19129e194526fccdf73e7545a1cdd3490004f5efb980cd129743bf8", func := "hortator/hortatorlaw2.SeatTurn", spec := "seatTurn", inPlace := ["math/bits.Add64"], plainKeys := false, apart := false }
def SeatTurnSaid : Prop := seatTurnRow.holds Try.pinned (OpenSpec.ofChange seatTurnSpec)

/-- ITS FALSE NEIGHBOUR: 'it returns false'. Refute it at one input. -/
def seatTurnWrong : ChangeSpec := { name := "seatTurn", fn := fun _ => fun
  | [d1, d2] => { results := [.lit (.bool false)], args := [d1, d2] }
  | _ => none }
def SeatTurnWrongFalsely : Prop := seatTurnRow.holds Try.pinned (OpenSpec.ofChange seatTurnWrong)

/-- 'hortatorlaw2.SeatAll': WHATEVER THE INPUT: true; the input reads as it did. -/
def seatAllSpec : ChangeSpec := { name := "seatAll", fn := fun _ => fun
  | [d1, d2] => { results := [.lit (.bool true)], args := [d1, d2] }
  | _ => none }
def seatAllRow : OpenClaim := { program := "ytpmamgdblbplcaa", sum := "b3f3c083f19129e194526fccdf73e7545a1cdd3490004f5efb980cd129743bf8", func := "hortator/hortatorlaw2.SeatAll", spec := "seatAll", inPlace := ["math/bits.Add64"], plainKeys := false, apart := false }
def SeatAllSaid : Prop := seatAllRow.holds Try.pinned (OpenSpec.ofChange seatAllSpec)

/-- ITS FALSE NEIGHBOUR: 'it returns false'. Refute it at one input. -/
def seatAllWrong : ChangeSpec := { name := "seatAll", fn := fun _ => fun
  | [d1, d2] => { results := [.lit (.bool false)], args := [d1, d2] }
  | _ => none }
def SeatAllWrongFalsely : Prop := seatAllRow.holds Try.pinned (OpenSpec.ofChange seatAllWrong)

/-- 'hortatorlaw2.HeapNone': WHATEVER THE INPUT: true; the input reads as it did. -/
def heapNoneSpec : ChangeSpec := { name := "heapNone", fn := fun _ => fun
  | [] => { results := [.lit (.bool true)], args := [] }
  | _ => none }
def heapNoneRow : OpenClaim := { program := "ytpmamgdblbplcaa", sum := "b3f3c083f19129e194526fccdf73e7545a1cdd3490004f5efb980cd129743bf8", func := "hortator/hortatorlaw2.HeapNone", spec := "heapNone", inPlace := ["math/bits.Add64"], plainKeys := false, apart := false }
def HeapNoneSaid : Prop := heapNoneRow.holds Try.pinned (OpenSpec.ofChange heapNoneSpec)

/-- ITS FALSE NEIGHBOUR: 'it returns false'. Refute it at one input. -/
def heapNoneWrong : ChangeSpec := { name := "heapNone", fn := fun _ => fun
  | [] => { results := [.lit (.bool false)], args := [] }
  | _ => none }
def HeapNoneWrongFalsely : Prop := heapNoneRow.holds Try.pinned (OpenSpec.ofChange heapNoneWrong)

/- THE SECOND FORM. 'bulk': how many values and letters a reading holds, each counted each time it is reached (what is shared counts as often as it is met; a slice's spare places count too). A statement '..UptoSaid' is the law's where the arguments, and the package variables that the reading takes, are together of bulk at most 1048576: NARROWER than '..Said'. Prove '..Said' where nothing that the law and all that it calls make is longer than what came in: it says more and counts as full. Else prove '..UptoSaid'. A law counts once. -/
mutual
def uptoBulk {H : Type} : DataW H → Nat
  | .lit (.string bytes) => bytes.length + 1
  | .lit _ => 1
  | .nil => 1
  | .ptr d => uptoBulk d + 1
  | .slice elems spare => uptoBulkAll elems + uptoBulkAll spare + 1
  | .agg parts => uptoBulkAll parts + 1
  | .iface _ d => uptoBulk d + 1
  | .map entries => uptoBulkEntries entries + 1
  | .held _ => 1
def uptoBulkAll {H : Type} : List (DataW H) → Nat
  | [] => 0
  | d :: r => uptoBulk d + uptoBulkAll r
def uptoBulkEntries {H : Type} : List (Lit × DataW H) → Nat
  | [] => 0
  | x :: r => uptoBulkEntry x + uptoBulkEntries r
def uptoBulkEntry {H : Type} : Lit × DataW H → Nat
  | (.string bytes, d) => bytes.length + uptoBulk d + 1
  | (_, d) => uptoBulk d + 1
 end
def uptoSmall : (H : Type) → List (DataW H) → Bool := fun _ ds => decide (uptoBulkAll ds ≤ 1048576)
def OpenSpec.upto (s : _root_.Go.ChangeSpec) : _root_.Go.OpenSpec := { _root_.Go.OpenSpec.ofChange s with cond := some uptoSmall }

/-- 'hortatorlaw2.HeapAll', WHERE WHAT IT READS IS OF BULK AT MOST 1048576: true; the input reads as it did. -/
def heapAllUptoRow : OpenClaim := { program := "ytpmamgdblbplcaa", sum := "b3f3c083f19129e194526fccdf73e7545a1cdd3490004f5efb980cd129743bf8", func := "hortator/hortatorlaw2.HeapAll", spec := "heapAll", inPlace := ["math/bits.Add64"], plainKeys := false, apart := false, narrowed := true }
def HeapAllUptoSaid : Prop := heapAllUptoRow.holds Try.pinned (OpenSpec.upto heapAllSpec)

/-- 'hortatorlaw2.HeapSort', WHERE WHAT IT READS IS OF BULK AT MOST 1048576: true; the input reads as it did. -/
def heapSortUptoRow : OpenClaim := { program := "ytpmamgdblbplcaa", sum := "b3f3c083f19129e194526fccdf73e7545a1cdd3490004f5efb980cd129743bf8", func := "hortator/hortatorlaw2.HeapSort", spec := "heapSort", inPlace := ["math/bits.Add64"], plainKeys := false, apart := false, narrowed := true }
def HeapSortUptoSaid : Prop := heapSortUptoRow.holds Try.pinned (OpenSpec.upto heapSortSpec)

/-- 'hortatorlaw2.BoxAll', WHERE WHAT IT READS IS OF BULK AT MOST 1048576: true; the input reads as it did. -/
def boxAllUptoRow : OpenClaim := { program := "ytpmamgdblbplcaa", sum := "b3f3c083f19129e194526fccdf73e7545a1cdd3490004f5efb980cd129743bf8", func := "hortator/hortatorlaw2.BoxAll", spec := "boxAll", inPlace := ["math/bits.Add64"], plainKeys := false, apart := false, narrowed := true }
def BoxAllUptoSaid : Prop := boxAllUptoRow.holds Try.pinned (OpenSpec.upto boxAllSpec)

/-- 'hortatorlaw2.HeapKeys', WHERE WHAT IT READS IS OF BULK AT MOST 1048576: true; the input reads as it did. -/
def heapKeysUptoRow : OpenClaim := { program := "ytpmamgdblbplcaa", sum := "b3f3c083f19129e194526fccdf73e7545a1cdd3490004f5efb980cd129743bf8", func := "hortator/hortatorlaw2.HeapKeys", spec := "heapKeys", inPlace := ["math/bits.Add64"], plainKeys := false, apart := false, narrowed := true }
def HeapKeysUptoSaid : Prop := heapKeysUptoRow.holds Try.pinned (OpenSpec.upto heapKeysSpec)

/-- 'hortatorlaw2.RingTurn', WHERE WHAT IT READS IS OF BULK AT MOST 1048576: true; the input reads as it did. -/
def ringTurnUptoRow : OpenClaim := { program := "ytpmamgdblbplcaa", sum := "b3f3c083f19129e194526fccdf73e7545a1cdd3490004f5efb980cd129743bf8", func := "hortator/hortatorlaw2.RingTurn", spec := "ringTurn", inPlace := ["math/bits.Add64"], plainKeys := false, apart := false, narrowed := true }
def RingTurnUptoSaid : Prop := ringTurnUptoRow.holds Try.pinned (OpenSpec.upto ringTurnSpec)

/-- 'hortatorlaw2.HeapRoom', WHERE WHAT IT READS IS OF BULK AT MOST 1048576: true; the input reads as it did. -/
def heapRoomUptoRow : OpenClaim := { program := "ytpmamgdblbplcaa", sum := "b3f3c083f19129e194526fccdf73e7545a1cdd3490004f5efb980cd129743bf8", func := "hortator/hortatorlaw2.HeapRoom", spec := "heapRoom", inPlace := ["math/bits.Add64"], plainKeys := false, apart := false, narrowed := true }
def HeapRoomUptoSaid : Prop := heapRoomUptoRow.holds Try.pinned (OpenSpec.upto heapRoomSpec)

/-- 'hortatorlaw2.HeapTexts', WHERE WHAT IT READS IS OF BULK AT MOST 1048576: true; the input reads as it did. -/
def heapTextsUptoRow : OpenClaim := { program := "ytpmamgdblbplcaa", sum := "b3f3c083f19129e194526fccdf73e7545a1cdd3490004f5efb980cd129743bf8", func := "hortator/hortatorlaw2.HeapTexts", spec := "heapTexts", inPlace := ["math/bits.Add64"], plainKeys := false, apart := false, narrowed := true }
def HeapTextsUptoSaid : Prop := heapTextsUptoRow.holds Try.pinned (OpenSpec.upto heapTextsSpec)

/-- 'hortatorlaw2.RingOwn', WHERE WHAT IT READS IS OF BULK AT MOST 1048576: true; the input reads as it did. -/
def ringOwnUptoRow : OpenClaim := { program := "ytpmamgdblbplcaa", sum := "b3f3c083f19129e194526fccdf73e7545a1cdd3490004f5efb980cd129743bf8", func := "hortator/hortatorlaw2.RingOwn", spec := "ringOwn", inPlace := ["math/bits.Add64"], plainKeys := false, apart := false, narrowed := true }
def RingOwnUptoSaid : Prop := ringOwnUptoRow.holds Try.pinned (OpenSpec.upto ringOwnSpec)

/-- 'hortatorlaw2.BoxFull', WHERE WHAT IT READS IS OF BULK AT MOST 1048576: true; the input reads as it did. -/
def boxFullUptoRow : OpenClaim := { program := "ytpmamgdblbplcaa", sum := "b3f3c083f19129e194526fccdf73e7545a1cdd3490004f5efb980cd129743bf8", func := "hortator/hortatorlaw2.BoxFull", spec := "boxFull", inPlace := ["math/bits.Add64"], plainKeys := false, apart := false, narrowed := true }
def BoxFullUptoSaid : Prop := boxFullUptoRow.holds Try.pinned (OpenSpec.upto boxFullSpec)

/-- 'hortatorlaw2.BoxEither', WHERE WHAT IT READS IS OF BULK AT MOST 1048576: true; the input reads as it did. -/
def boxEitherUptoRow : OpenClaim := { program := "ytpmamgdblbplcaa", sum := "b3f3c083f19129e194526fccdf73e7545a1cdd3490004f5efb980cd129743bf8", func := "hortator/hortatorlaw2.BoxEither", spec := "boxEither", inPlace := ["math/bits.Add64"], plainKeys := false, apart := false, narrowed := true }
def BoxEitherUptoSaid : Prop := boxEitherUptoRow.holds Try.pinned (OpenSpec.upto boxEitherSpec)

/-- 'hortatorlaw2.HeapDrop', WHERE WHAT IT READS IS OF BULK AT MOST 1048576: true; the input reads as it did. -/
def heapDropUptoRow : OpenClaim := { program := "ytpmamgdblbplcaa", sum := "b3f3c083f19129e194526fccdf73e7545a1cdd3490004f5efb980cd129743bf8", func := "hortator/hortatorlaw2.HeapDrop", spec := "heapDrop", inPlace := ["math/bits.Add64"], plainKeys := false, apart := false, narrowed := true }
def HeapDropUptoSaid : Prop := heapDropUptoRow.holds Try.pinned (OpenSpec.upto heapDropSpec)

/-- 'hortatorlaw2.RingAll', WHERE WHAT IT READS IS OF BULK AT MOST 1048576: true; the input reads as it did. -/
def ringAllUptoRow : OpenClaim := { program := "ytpmamgdblbplcaa", sum := "b3f3c083f19129e194526fccdf73e7545a1cdd3490004f5efb980cd129743bf8", func := "hortator/hortatorlaw2.RingAll", spec := "ringAll", inPlace := ["math/bits.Add64"], plainKeys := false, apart := false, narrowed := true }
def RingAllUptoSaid : Prop := ringAllUptoRow.holds Try.pinned (OpenSpec.upto ringAllSpec)

/-- 'hortatorlaw2.LineOrder', WHERE WHAT IT READS IS OF BULK AT MOST 1048576: true; the input reads as it did. -/
def lineOrderUptoRow : OpenClaim := { program := "ytpmamgdblbplcaa", sum := "b3f3c083f19129e194526fccdf73e7545a1cdd3490004f5efb980cd129743bf8", func := "hortator/hortatorlaw2.LineOrder", spec := "lineOrder", inPlace := ["math/bits.Add64"], plainKeys := false, apart := false, narrowed := true }
def LineOrderUptoSaid : Prop := lineOrderUptoRow.holds Try.pinned (OpenSpec.upto lineOrderSpec)

/-- 'hortatorlaw2.LineAll', WHERE WHAT IT READS IS OF BULK AT MOST 1048576: true; the input reads as it did. -/
def lineAllUptoRow : OpenClaim := { program := "ytpmamgdblbplcaa", sum := "b3f3c083f19129e194526fccdf73e7545a1cdd3490004f5efb980cd129743bf8", func := "hortator/hortatorlaw2.LineAll", spec := "lineAll", inPlace := ["math/bits.Add64"], plainKeys := false, apart := false, narrowed := true }
def LineAllUptoSaid : Prop := lineAllUptoRow.holds Try.pinned (OpenSpec.upto lineAllSpec)

/-- 'hortatorlaw2.LineAgain', WHERE WHAT IT READS IS OF BULK AT MOST 1048576: true; the input reads as it did. -/
def lineAgainUptoRow : OpenClaim := { program := "ytpmamgdblbplcaa", sum := "b3f3c083f19129e194526fccdf73e7545a1cdd3490004f5efb980cd129743bf8", func := "hortator/hortatorlaw2.LineAgain", spec := "lineAgain", inPlace := ["math/bits.Add64"], plainKeys := false, apart := false, narrowed := true }
def LineAgainUptoSaid : Prop := lineAgainUptoRow.holds Try.pinned (OpenSpec.upto lineAgainSpec)

/-- 'hortatorlaw2.Zeroes', WHERE WHAT IT READS IS OF BULK AT MOST 1048576: true; the input reads as it did. -/
def zeroesUptoRow : OpenClaim := { program := "ytpmamgdblbplcaa", sum := "b3f3c083f19129e194526fccdf73e7545a1cdd3490004f5efb980cd129743bf8", func := "hortator/hortatorlaw2.Zeroes", spec := "zeroes", inPlace := ["math/bits.Add64"], plainKeys := false, apart := false, narrowed := true }
def ZeroesUptoSaid : Prop := zeroesUptoRow.holds Try.pinned (OpenSpec.upto zeroesSpec)

/-- 'hortatorlaw2.SeatTurn', WHERE WHAT IT READS IS OF BULK AT MOST 1048576: true; the input reads as it did. -/
def seatTurnUptoRow : OpenClaim := { program := "ytpmamgdblbplcaa", sum := "b3f3c083f19129e194526fccdf73e7545a1cdd3490004f5efb980cd129743bf8", func := "hortator/hortatorlaw2.SeatTurn", spec := "seatTurn", inPlace := ["math/bits.Add64"], plainKeys := false, apart := false, narrowed := true }
def SeatTurnUptoSaid : Prop := seatTurnUptoRow.holds Try.pinned (OpenSpec.upto seatTurnSpec)

/-- 'hortatorlaw2.SeatAll', WHERE WHAT IT READS IS OF BULK AT MOST 1048576: true; the input reads as it did. -/
def seatAllUptoRow : OpenClaim := { program := "ytpmamgdblbplcaa", sum := "b3f3c083f19129e194526fccdf73e7545a1cdd3490004f5efb980cd129743bf8", func := "hortator/hortatorlaw2.SeatAll", spec := "seatAll", inPlace := ["math/bits.Add64"], plainKeys := false, apart := false, narrowed := true }
def SeatAllUptoSaid : Prop := seatAllUptoRow.holds Try.pinned (OpenSpec.upto seatAllSpec)

/-- 'hortatorlaw2.HeapNone', WHERE WHAT IT READS IS OF BULK AT MOST 1048576: true; the input reads as it did. -/
def heapNoneUptoRow : OpenClaim := { program := "ytpmamgdblbplcaa", sum := "b3f3c083f19129e194526fccdf73e7545a1cdd3490004f5efb980cd129743bf8", func := "hortator/hortatorlaw2.HeapNone", spec := "heapNone", inPlace := ["math/bits.Add64"], plainKeys := false, apart := false, narrowed := true }
def HeapNoneUptoSaid : Prop := heapNoneUptoRow.holds Try.pinned (OpenSpec.upto heapNoneSpec)

end Rows
end Go.Proofs.Ytpmamgdblbplcaa
