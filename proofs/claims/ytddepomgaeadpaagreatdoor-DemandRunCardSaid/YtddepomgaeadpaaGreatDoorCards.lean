/-
  DERIVED. GIVEN WITH THE SEED: THE CARDS: each row of YtddepomgaeadpaaGreatDoorRows.lean that lists a variable, with what it lists TIED to the program's text (the seventh form; the later family's looks); each row that meets fmt, with fmt's text TOLD by the authors' own Lean function (tested against real Go, not proved from fmt's source: count such statements apart). THE CARD IS WHAT COUNTS. Prove the row's statement (the work); the ties are given (YtddepomgaeadpaaGreatDoorTie.lean); close each card by the builder's one call (the guide's Derived/Test/ToyasCard.lean, 'card_holds'). Laid BY PROGRAM, IN A SANDBOX (cutbox-door.mjs). By AI agents, Wed Nov 11 2026. No macro, syntax, notation, axiom, sorry.
-/
import Derived.Test.YtddepomgaeadpaaGreatDoorRows
import GoSem.ClaimSeven
namespace Go.Proofs.YtddepomgaeadpaaGreatDoor
namespace Rows

/-- THE TIED CARD OF 'hortatorlaw9.BusyAll'. -/
def busyAllCard : Claim7 := { stood := { row := busyAllRow, standIns := [], harness := (true, "5593ad2a5a772f8be195e0fe692033ff87e224b9e1f3bacf87f13d01f91435b9"), looks := true }, kinds := [], alts := [], laidByText := true, laidKinds := [.data, .data, .data, .data, .sentinel, .sentinel, .pinned], laidTests := true, laidLooks := .later }
def BusyAllCardSaid : Prop := Claim7.holds Tryz.pinned (.plain (OpenSpec.ofChange busyAllSpec)) busyAllCard

/-- THE TIED CARD OF 'hortatorlaw9.BusyRun'. -/
def busyRunCard : Claim7 := { stood := { row := busyRunRow, standIns := [], harness := (true, "5593ad2a5a772f8be195e0fe692033ff87e224b9e1f3bacf87f13d01f91435b9"), looks := true }, kinds := [], alts := [], laidByText := true, laidKinds := [.data, .data, .data, .data, .sentinel, .sentinel, .pinned], laidTests := true, laidLooks := .later }
def BusyRunCardSaid : Prop := Claim7.holds Tryz.pinned (.plain (OpenSpec.ofChange busyRunSpec)) busyRunCard

/-- THE TIED CARD OF 'hortatorlaw9.DemandAll'. -/
def demandAllCard : Claim7 := { stood := { row := demandAllRow, standIns := [], harness := (true, "5593ad2a5a772f8be195e0fe692033ff87e224b9e1f3bacf87f13d01f91435b9"), looks := true }, kinds := [], alts := [], laidByText := true, laidKinds := [.data, .data, .data, .data, .sentinel, .sentinel, .pinned], laidTests := true, laidLooks := .later }
def DemandAllCardSaid : Prop := Claim7.holds Tryz.pinned (.plain (OpenSpec.ofChange demandAllSpec)) demandAllCard

/-- THE TIED CARD OF 'hortatorlaw9.DemandEver'. -/
def demandEverCard : Claim7 := { stood := { row := demandEverRow, standIns := [], harness := (true, "5593ad2a5a772f8be195e0fe692033ff87e224b9e1f3bacf87f13d01f91435b9"), looks := true }, kinds := [], alts := [], laidByText := true, laidKinds := [.data, .data, .data, .data, .sentinel, .sentinel, .pinned], laidTests := true, laidLooks := .later }
def DemandEverCardSaid : Prop := Claim7.holds Tryz.pinned (.plain (OpenSpec.ofChange demandEverSpec)) demandEverCard

/-- THE TIED CARD OF 'hortatorlaw9.DemandRun'. -/
def demandRunCard : Claim7 := { stood := { row := demandRunRow, standIns := [], harness := (true, "5593ad2a5a772f8be195e0fe692033ff87e224b9e1f3bacf87f13d01f91435b9"), looks := true }, kinds := [], alts := [], laidByText := true, laidKinds := [.data, .data, .data, .data, .sentinel, .sentinel, .pinned], laidTests := true, laidLooks := .later }
def DemandRunCardSaid : Prop := Claim7.holds Tryz.pinned (.plain (OpenSpec.ofChange demandRunSpec)) demandRunCard

/-- THE TIED CARD OF 'hortatorlaw9.DemandLess'. -/
def demandLessCard : Claim7 := { stood := { row := demandLessRow, standIns := [], harness := (true, "5593ad2a5a772f8be195e0fe692033ff87e224b9e1f3bacf87f13d01f91435b9"), looks := true }, kinds := [], alts := [], laidByText := true, laidKinds := [.data, .data, .data, .data, .sentinel, .sentinel, .pinned], laidTests := true, laidLooks := .later }
def DemandLessCardSaid : Prop := Claim7.holds Tryz.pinned (.plain (OpenSpec.ofChange demandLessSpec)) demandLessCard

/-- THE TIED CARD OF 'hortatorlaw9.MostAll'. -/
def mostAllCard : Claim7 := { stood := { row := mostAllRow, standIns := [], harness := (true, "5593ad2a5a772f8be195e0fe692033ff87e224b9e1f3bacf87f13d01f91435b9"), looks := true }, kinds := [], alts := [], laidByText := true, laidKinds := [.data, .data, .data, .data, .sentinel, .sentinel, .pinned], laidTests := true, laidLooks := .later }
def MostAllCardSaid : Prop := Claim7.holds Tryz.pinned (.plain (OpenSpec.ofChange mostAllSpec)) mostAllCard

/-- THE TIED CARD OF 'hortatorlaw9.MostJust'. -/
def mostJustCard : Claim7 := { stood := { row := mostJustRow, standIns := [], harness := (true, "5593ad2a5a772f8be195e0fe692033ff87e224b9e1f3bacf87f13d01f91435b9"), looks := true }, kinds := [], alts := [], laidByText := true, laidKinds := [.data, .data, .data, .data, .sentinel, .sentinel, .pinned], laidTests := true, laidLooks := .later }
def MostJustCardSaid : Prop := Claim7.holds Tryz.pinned (.plain (OpenSpec.ofChange mostJustSpec)) mostJustCard

/-- THE TIED CARD OF 'hortatorlaw9.BusyOne'. -/
def busyOneCard : Claim7 := { stood := { row := busyOneRow, standIns := [], harness := (true, "5593ad2a5a772f8be195e0fe692033ff87e224b9e1f3bacf87f13d01f91435b9"), looks := true }, kinds := [], alts := [], laidByText := true, laidKinds := [.data, .data, .data, .data, .sentinel, .sentinel, .pinned], laidTests := true, laidLooks := .later }
def BusyOneCardSaid : Prop := Claim7.holds Tryz.pinned (.plain (OpenSpec.ofChange busyOneSpec)) busyOneCard

/-- THE TIED CARD OF 'hortatorlaw9.BusyMore'. -/
def busyMoreCard : Claim7 := { stood := { row := busyMoreRow, standIns := [], harness := (true, "5593ad2a5a772f8be195e0fe692033ff87e224b9e1f3bacf87f13d01f91435b9"), looks := true }, kinds := [], alts := [], laidByText := true, laidKinds := [.data, .data, .data, .data, .sentinel, .sentinel, .pinned], laidTests := true, laidLooks := .later }
def BusyMoreCardSaid : Prop := Claim7.holds Tryz.pinned (.plain (OpenSpec.ofChange busyMoreSpec)) busyMoreCard

/-- THE TIED CARD OF 'hortatorlaw9.BusyOrder'. -/
def busyOrderCard : Claim7 := { stood := { row := busyOrderRow, standIns := [], harness := (true, "5593ad2a5a772f8be195e0fe692033ff87e224b9e1f3bacf87f13d01f91435b9"), looks := true }, kinds := [], alts := [], laidByText := true, laidKinds := [.data, .data, .data, .data, .sentinel, .sentinel, .pinned], laidTests := true, laidLooks := .later }
def BusyOrderCardSaid : Prop := Claim7.holds Tryz.pinned (.plain (OpenSpec.ofChange busyOrderSpec)) busyOrderCard

/-- THE TIED CARD OF 'hortatorlaw9.DemandFull'. -/
def demandFullCard : Claim7 := { stood := { row := demandFullRow, standIns := [], harness := (true, "5593ad2a5a772f8be195e0fe692033ff87e224b9e1f3bacf87f13d01f91435b9"), looks := true }, kinds := [], alts := [], laidByText := true, laidKinds := [.data, .data, .data, .data, .sentinel, .sentinel, .pinned], laidTests := true, laidLooks := .later }
def DemandFullCardSaid : Prop := Claim7.holds Tryz.pinned (.plain (OpenSpec.ofChange demandFullSpec)) demandFullCard

/-- THE TIED CARD OF 'hortatorlaw9.DemandBound'. -/
def demandBoundCard : Claim7 := { stood := { row := demandBoundRow, standIns := [], harness := (true, "5593ad2a5a772f8be195e0fe692033ff87e224b9e1f3bacf87f13d01f91435b9"), looks := true }, kinds := [], alts := [], laidByText := true, laidKinds := [.data, .data, .data, .data, .sentinel, .sentinel, .pinned], laidTests := true, laidLooks := .later }
def DemandBoundCardSaid : Prop := Claim7.holds Tryz.pinned (.plain (OpenSpec.ofChange demandBoundSpec)) demandBoundCard

/-- THE TIED CARD OF 'hortatorlaw9.DemandNone'. -/
def demandNoneCard : Claim7 := { stood := { row := demandNoneRow, standIns := [], harness := (true, "5593ad2a5a772f8be195e0fe692033ff87e224b9e1f3bacf87f13d01f91435b9"), looks := true }, kinds := [], alts := [], laidByText := true, laidKinds := [.data, .data, .data, .data, .sentinel, .sentinel, .pinned], laidTests := true, laidLooks := .later }
def DemandNoneCardSaid : Prop := Claim7.holds Tryz.pinned (.plain (OpenSpec.ofChange demandNoneSpec)) demandNoneCard

/-- THE TIED CARD OF 'hortatorlaw9.MostEmpty'. -/
def mostEmptyCard : Claim7 := { stood := { row := mostEmptyRow, standIns := [], harness := (true, "5593ad2a5a772f8be195e0fe692033ff87e224b9e1f3bacf87f13d01f91435b9"), looks := true }, kinds := [], alts := [], laidByText := true, laidKinds := [.data, .data, .data, .data, .sentinel, .sentinel, .pinned], laidTests := true, laidLooks := .later }
def MostEmptyCardSaid : Prop := Claim7.holds Tryz.pinned (.plain (OpenSpec.ofChange mostEmptySpec)) mostEmptyCard

/-- THE TIED CARD OF 'hortatorlaw9.MostTight'. -/
def mostTightCard : Claim7 := { stood := { row := mostTightRow, standIns := [], harness := (true, "5593ad2a5a772f8be195e0fe692033ff87e224b9e1f3bacf87f13d01f91435b9"), looks := true }, kinds := [], alts := [], laidByText := true, laidKinds := [.data, .data, .data, .data, .sentinel, .sentinel, .pinned], laidTests := true, laidLooks := .later }
def MostTightCardSaid : Prop := Claim7.holds Tryz.pinned (.plain (OpenSpec.ofChange mostTightSpec)) mostTightCard

/-- THE TIED CARD OF 'hortatorlaw9.MostLess'. -/
def mostLessCard : Claim7 := { stood := { row := mostLessRow, standIns := [], harness := (true, "5593ad2a5a772f8be195e0fe692033ff87e224b9e1f3bacf87f13d01f91435b9"), looks := true }, kinds := [], alts := [], laidByText := true, laidKinds := [.data, .data, .data, .data, .sentinel, .sentinel, .pinned], laidTests := true, laidLooks := .later }
def MostLessCardSaid : Prop := Claim7.holds Tryz.pinned (.plain (OpenSpec.ofChange mostLessSpec)) mostLessCard

/-- THE TIED CARD OF 'hortatorlaw9.DemandTwo'. -/
def demandTwoCard : Claim7 := { stood := { row := demandTwoRow, standIns := [], harness := (true, "5593ad2a5a772f8be195e0fe692033ff87e224b9e1f3bacf87f13d01f91435b9"), looks := true }, kinds := [], alts := [], laidByText := true, laidKinds := [.data, .data, .data, .data, .sentinel, .sentinel, .pinned], laidTests := true, laidLooks := .later }
def DemandTwoCardSaid : Prop := Claim7.holds Tryz.pinned (.plain (OpenSpec.ofChange demandTwoSpec)) demandTwoCard

/-- THE TIED CARD OF 'hortatorlaw9.BusySum'. -/
def busySumCard : Claim7 := { stood := { row := busySumRow, standIns := [], harness := (true, "5593ad2a5a772f8be195e0fe692033ff87e224b9e1f3bacf87f13d01f91435b9"), looks := true }, kinds := [], alts := [], laidByText := true, laidKinds := [.data, .data, .data, .data, .sentinel, .sentinel, .pinned], laidTests := true, laidLooks := .later }
def BusySumCardSaid : Prop := Claim7.holds Tryz.pinned (.plain (OpenSpec.ofChange busySumSpec)) busySumCard

/-- THE TIED CARD OF 'hortatorlaw9.MostZero'. -/
def mostZeroCard : Claim7 := { stood := { row := mostZeroRow, standIns := [], harness := (true, "5593ad2a5a772f8be195e0fe692033ff87e224b9e1f3bacf87f13d01f91435b9"), looks := true }, kinds := [], alts := [], laidByText := true, laidKinds := [.data, .data, .data, .data, .sentinel, .sentinel, .pinned], laidTests := true, laidLooks := .later }
def MostZeroCardSaid : Prop := Claim7.holds Tryz.pinned (.plain (OpenSpec.ofChange mostZeroSpec)) mostZeroCard

/-- THE SECOND FORM's CARD OF 'hortatorlaw9.BusyAll'. -/
def busyAllUptoCard : Claim7 := { stood := { row := busyAllUptoRow, standIns := [], harness := (true, "5593ad2a5a772f8be195e0fe692033ff87e224b9e1f3bacf87f13d01f91435b9"), looks := true }, kinds := [], alts := [], laidByText := true, laidKinds := [.data, .data, .data, .data, .sentinel, .sentinel, .pinned], laidTests := true, laidLooks := .later }
def BusyAllUptoCardSaid : Prop := Claim7.holds Tryz.pinned (.plain (OpenSpec.upto busyAllSpec)) busyAllUptoCard

/-- THE SECOND FORM's CARD OF 'hortatorlaw9.BusyRun'. -/
def busyRunUptoCard : Claim7 := { stood := { row := busyRunUptoRow, standIns := [], harness := (true, "5593ad2a5a772f8be195e0fe692033ff87e224b9e1f3bacf87f13d01f91435b9"), looks := true }, kinds := [], alts := [], laidByText := true, laidKinds := [.data, .data, .data, .data, .sentinel, .sentinel, .pinned], laidTests := true, laidLooks := .later }
def BusyRunUptoCardSaid : Prop := Claim7.holds Tryz.pinned (.plain (OpenSpec.upto busyRunSpec)) busyRunUptoCard

/-- THE SECOND FORM's CARD OF 'hortatorlaw9.DemandAll'. -/
def demandAllUptoCard : Claim7 := { stood := { row := demandAllUptoRow, standIns := [], harness := (true, "5593ad2a5a772f8be195e0fe692033ff87e224b9e1f3bacf87f13d01f91435b9"), looks := true }, kinds := [], alts := [], laidByText := true, laidKinds := [.data, .data, .data, .data, .sentinel, .sentinel, .pinned], laidTests := true, laidLooks := .later }
def DemandAllUptoCardSaid : Prop := Claim7.holds Tryz.pinned (.plain (OpenSpec.upto demandAllSpec)) demandAllUptoCard

/-- THE SECOND FORM's CARD OF 'hortatorlaw9.DemandEver'. -/
def demandEverUptoCard : Claim7 := { stood := { row := demandEverUptoRow, standIns := [], harness := (true, "5593ad2a5a772f8be195e0fe692033ff87e224b9e1f3bacf87f13d01f91435b9"), looks := true }, kinds := [], alts := [], laidByText := true, laidKinds := [.data, .data, .data, .data, .sentinel, .sentinel, .pinned], laidTests := true, laidLooks := .later }
def DemandEverUptoCardSaid : Prop := Claim7.holds Tryz.pinned (.plain (OpenSpec.upto demandEverSpec)) demandEverUptoCard

/-- THE SECOND FORM's CARD OF 'hortatorlaw9.DemandRun'. -/
def demandRunUptoCard : Claim7 := { stood := { row := demandRunUptoRow, standIns := [], harness := (true, "5593ad2a5a772f8be195e0fe692033ff87e224b9e1f3bacf87f13d01f91435b9"), looks := true }, kinds := [], alts := [], laidByText := true, laidKinds := [.data, .data, .data, .data, .sentinel, .sentinel, .pinned], laidTests := true, laidLooks := .later }
def DemandRunUptoCardSaid : Prop := Claim7.holds Tryz.pinned (.plain (OpenSpec.upto demandRunSpec)) demandRunUptoCard

/-- THE SECOND FORM's CARD OF 'hortatorlaw9.DemandLess'. -/
def demandLessUptoCard : Claim7 := { stood := { row := demandLessUptoRow, standIns := [], harness := (true, "5593ad2a5a772f8be195e0fe692033ff87e224b9e1f3bacf87f13d01f91435b9"), looks := true }, kinds := [], alts := [], laidByText := true, laidKinds := [.data, .data, .data, .data, .sentinel, .sentinel, .pinned], laidTests := true, laidLooks := .later }
def DemandLessUptoCardSaid : Prop := Claim7.holds Tryz.pinned (.plain (OpenSpec.upto demandLessSpec)) demandLessUptoCard

/-- THE SECOND FORM's CARD OF 'hortatorlaw9.MostAll'. -/
def mostAllUptoCard : Claim7 := { stood := { row := mostAllUptoRow, standIns := [], harness := (true, "5593ad2a5a772f8be195e0fe692033ff87e224b9e1f3bacf87f13d01f91435b9"), looks := true }, kinds := [], alts := [], laidByText := true, laidKinds := [.data, .data, .data, .data, .sentinel, .sentinel, .pinned], laidTests := true, laidLooks := .later }
def MostAllUptoCardSaid : Prop := Claim7.holds Tryz.pinned (.plain (OpenSpec.upto mostAllSpec)) mostAllUptoCard

/-- THE SECOND FORM's CARD OF 'hortatorlaw9.MostJust'. -/
def mostJustUptoCard : Claim7 := { stood := { row := mostJustUptoRow, standIns := [], harness := (true, "5593ad2a5a772f8be195e0fe692033ff87e224b9e1f3bacf87f13d01f91435b9"), looks := true }, kinds := [], alts := [], laidByText := true, laidKinds := [.data, .data, .data, .data, .sentinel, .sentinel, .pinned], laidTests := true, laidLooks := .later }
def MostJustUptoCardSaid : Prop := Claim7.holds Tryz.pinned (.plain (OpenSpec.upto mostJustSpec)) mostJustUptoCard

/-- THE SECOND FORM's CARD OF 'hortatorlaw9.BusyOne'. -/
def busyOneUptoCard : Claim7 := { stood := { row := busyOneUptoRow, standIns := [], harness := (true, "5593ad2a5a772f8be195e0fe692033ff87e224b9e1f3bacf87f13d01f91435b9"), looks := true }, kinds := [], alts := [], laidByText := true, laidKinds := [.data, .data, .data, .data, .sentinel, .sentinel, .pinned], laidTests := true, laidLooks := .later }
def BusyOneUptoCardSaid : Prop := Claim7.holds Tryz.pinned (.plain (OpenSpec.upto busyOneSpec)) busyOneUptoCard

/-- THE SECOND FORM's CARD OF 'hortatorlaw9.BusyMore'. -/
def busyMoreUptoCard : Claim7 := { stood := { row := busyMoreUptoRow, standIns := [], harness := (true, "5593ad2a5a772f8be195e0fe692033ff87e224b9e1f3bacf87f13d01f91435b9"), looks := true }, kinds := [], alts := [], laidByText := true, laidKinds := [.data, .data, .data, .data, .sentinel, .sentinel, .pinned], laidTests := true, laidLooks := .later }
def BusyMoreUptoCardSaid : Prop := Claim7.holds Tryz.pinned (.plain (OpenSpec.upto busyMoreSpec)) busyMoreUptoCard

/-- THE SECOND FORM's CARD OF 'hortatorlaw9.BusyOrder'. -/
def busyOrderUptoCard : Claim7 := { stood := { row := busyOrderUptoRow, standIns := [], harness := (true, "5593ad2a5a772f8be195e0fe692033ff87e224b9e1f3bacf87f13d01f91435b9"), looks := true }, kinds := [], alts := [], laidByText := true, laidKinds := [.data, .data, .data, .data, .sentinel, .sentinel, .pinned], laidTests := true, laidLooks := .later }
def BusyOrderUptoCardSaid : Prop := Claim7.holds Tryz.pinned (.plain (OpenSpec.upto busyOrderSpec)) busyOrderUptoCard

/-- THE SECOND FORM's CARD OF 'hortatorlaw9.DemandFull'. -/
def demandFullUptoCard : Claim7 := { stood := { row := demandFullUptoRow, standIns := [], harness := (true, "5593ad2a5a772f8be195e0fe692033ff87e224b9e1f3bacf87f13d01f91435b9"), looks := true }, kinds := [], alts := [], laidByText := true, laidKinds := [.data, .data, .data, .data, .sentinel, .sentinel, .pinned], laidTests := true, laidLooks := .later }
def DemandFullUptoCardSaid : Prop := Claim7.holds Tryz.pinned (.plain (OpenSpec.upto demandFullSpec)) demandFullUptoCard

/-- THE SECOND FORM's CARD OF 'hortatorlaw9.DemandBound'. -/
def demandBoundUptoCard : Claim7 := { stood := { row := demandBoundUptoRow, standIns := [], harness := (true, "5593ad2a5a772f8be195e0fe692033ff87e224b9e1f3bacf87f13d01f91435b9"), looks := true }, kinds := [], alts := [], laidByText := true, laidKinds := [.data, .data, .data, .data, .sentinel, .sentinel, .pinned], laidTests := true, laidLooks := .later }
def DemandBoundUptoCardSaid : Prop := Claim7.holds Tryz.pinned (.plain (OpenSpec.upto demandBoundSpec)) demandBoundUptoCard

/-- THE SECOND FORM's CARD OF 'hortatorlaw9.DemandNone'. -/
def demandNoneUptoCard : Claim7 := { stood := { row := demandNoneUptoRow, standIns := [], harness := (true, "5593ad2a5a772f8be195e0fe692033ff87e224b9e1f3bacf87f13d01f91435b9"), looks := true }, kinds := [], alts := [], laidByText := true, laidKinds := [.data, .data, .data, .data, .sentinel, .sentinel, .pinned], laidTests := true, laidLooks := .later }
def DemandNoneUptoCardSaid : Prop := Claim7.holds Tryz.pinned (.plain (OpenSpec.upto demandNoneSpec)) demandNoneUptoCard

/-- THE SECOND FORM's CARD OF 'hortatorlaw9.MostEmpty'. -/
def mostEmptyUptoCard : Claim7 := { stood := { row := mostEmptyUptoRow, standIns := [], harness := (true, "5593ad2a5a772f8be195e0fe692033ff87e224b9e1f3bacf87f13d01f91435b9"), looks := true }, kinds := [], alts := [], laidByText := true, laidKinds := [.data, .data, .data, .data, .sentinel, .sentinel, .pinned], laidTests := true, laidLooks := .later }
def MostEmptyUptoCardSaid : Prop := Claim7.holds Tryz.pinned (.plain (OpenSpec.upto mostEmptySpec)) mostEmptyUptoCard

/-- THE SECOND FORM's CARD OF 'hortatorlaw9.MostTight'. -/
def mostTightUptoCard : Claim7 := { stood := { row := mostTightUptoRow, standIns := [], harness := (true, "5593ad2a5a772f8be195e0fe692033ff87e224b9e1f3bacf87f13d01f91435b9"), looks := true }, kinds := [], alts := [], laidByText := true, laidKinds := [.data, .data, .data, .data, .sentinel, .sentinel, .pinned], laidTests := true, laidLooks := .later }
def MostTightUptoCardSaid : Prop := Claim7.holds Tryz.pinned (.plain (OpenSpec.upto mostTightSpec)) mostTightUptoCard

/-- THE SECOND FORM's CARD OF 'hortatorlaw9.MostLess'. -/
def mostLessUptoCard : Claim7 := { stood := { row := mostLessUptoRow, standIns := [], harness := (true, "5593ad2a5a772f8be195e0fe692033ff87e224b9e1f3bacf87f13d01f91435b9"), looks := true }, kinds := [], alts := [], laidByText := true, laidKinds := [.data, .data, .data, .data, .sentinel, .sentinel, .pinned], laidTests := true, laidLooks := .later }
def MostLessUptoCardSaid : Prop := Claim7.holds Tryz.pinned (.plain (OpenSpec.upto mostLessSpec)) mostLessUptoCard

/-- THE SECOND FORM's CARD OF 'hortatorlaw9.DemandTwo'. -/
def demandTwoUptoCard : Claim7 := { stood := { row := demandTwoUptoRow, standIns := [], harness := (true, "5593ad2a5a772f8be195e0fe692033ff87e224b9e1f3bacf87f13d01f91435b9"), looks := true }, kinds := [], alts := [], laidByText := true, laidKinds := [.data, .data, .data, .data, .sentinel, .sentinel, .pinned], laidTests := true, laidLooks := .later }
def DemandTwoUptoCardSaid : Prop := Claim7.holds Tryz.pinned (.plain (OpenSpec.upto demandTwoSpec)) demandTwoUptoCard

/-- THE SECOND FORM's CARD OF 'hortatorlaw9.BusySum'. -/
def busySumUptoCard : Claim7 := { stood := { row := busySumUptoRow, standIns := [], harness := (true, "5593ad2a5a772f8be195e0fe692033ff87e224b9e1f3bacf87f13d01f91435b9"), looks := true }, kinds := [], alts := [], laidByText := true, laidKinds := [.data, .data, .data, .data, .sentinel, .sentinel, .pinned], laidTests := true, laidLooks := .later }
def BusySumUptoCardSaid : Prop := Claim7.holds Tryz.pinned (.plain (OpenSpec.upto busySumSpec)) busySumUptoCard

/-- THE SECOND FORM's CARD OF 'hortatorlaw9.MostZero'. -/
def mostZeroUptoCard : Claim7 := { stood := { row := mostZeroUptoRow, standIns := [], harness := (true, "5593ad2a5a772f8be195e0fe692033ff87e224b9e1f3bacf87f13d01f91435b9"), looks := true }, kinds := [], alts := [], laidByText := true, laidKinds := [.data, .data, .data, .data, .sentinel, .sentinel, .pinned], laidTests := true, laidLooks := .later }
def MostZeroUptoCardSaid : Prop := Claim7.holds Tryz.pinned (.plain (OpenSpec.upto mostZeroSpec)) mostZeroUptoCard
end Rows
end Go.Proofs.YtddepomgaeadpaaGreatDoor
