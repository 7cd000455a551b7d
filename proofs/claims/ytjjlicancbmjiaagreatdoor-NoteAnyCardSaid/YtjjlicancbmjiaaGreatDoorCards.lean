/-
  DERIVED. GIVEN WITH THE SEED: THE CARDS: each row of YtjjlicancbmjiaaGreatDoorRows.lean that lists a variable, with what it lists TIED to the program's text (the seventh form; the later family's looks); each row that meets fmt, with fmt's text TOLD by the authors' own Lean function (tested against real Go, not proved from fmt's source: count such statements apart). THE CARD IS WHAT COUNTS. Prove the row's statement (the work); the ties are given (YtjjlicancbmjiaaGreatDoorTie.lean); close each card by the builder's one call (the guide's Derived/Test/ToyasCard.lean, 'card_holds'). Laid BY PROGRAM, IN A SANDBOX (cutbox-door.mjs). By AI agents, Wed Nov 11 2026. No macro, syntax, notation, axiom, sorry.
-/
import Derived.Test.YtjjlicancbmjiaaGreatDoorRows
import GoSem.ClaimSeven
namespace Go.Proofs.YtjjlicancbmjiaaGreatDoor
namespace Rows

/-- THE TIED CARD OF 'hortatorlaw7.RuleAll'. -/
def ruleAllCard : Claim7 := { stood := { row := ruleAllRow, standIns := [], harness := (true, "94fc2c4dbd37983a9d658cb90746bf400cbf89e5d760bfac9aa64c75ede9194e"), looks := true }, kinds := [], alts := [], laidByText := true, laidKinds := [.data, .data, .data, .data, .sentinel, .sentinel, .pinned], laidTests := true, laidLooks := .later }
def RuleAllCardSaid : Prop := Claim7.holds Tryz.pinned (.plain (OpenSpec.ofChange ruleAllSpec)) ruleAllCard

/-- THE TIED CARD OF 'hortatorlaw7.RuleTurn'. -/
def ruleTurnCard : Claim7 := { stood := { row := ruleTurnRow, standIns := [], harness := (true, "94fc2c4dbd37983a9d658cb90746bf400cbf89e5d760bfac9aa64c75ede9194e"), looks := true }, kinds := [], alts := [], laidByText := true, laidKinds := [.data, .data, .data, .data, .sentinel, .sentinel, .pinned], laidTests := true, laidLooks := .later }
def RuleTurnCardSaid : Prop := Claim7.holds Tryz.pinned (.plain (OpenSpec.ofChange ruleTurnSpec)) ruleTurnCard

/-- THE TIED CARD OF 'hortatorlaw7.NoteAll'. -/
def noteAllCard : Claim7 := { stood := { row := noteAllRow, standIns := [], harness := (true, "94fc2c4dbd37983a9d658cb90746bf400cbf89e5d760bfac9aa64c75ede9194e"), looks := true }, kinds := [], alts := [], laidByText := true, laidKinds := [.data, .data, .data, .data, .sentinel, .sentinel, .pinned], laidTests := true, laidLooks := .later }
def NoteAllCardSaid : Prop := Claim7.holds Tryz.pinned (.plain (OpenSpec.ofChange noteAllSpec)) noteAllCard

/-- THE TIED CARD OF 'hortatorlaw7.NoteAny'. -/
def noteAnyCard : Claim7 := { stood := { row := noteAnyRow, standIns := [], harness := (true, "94fc2c4dbd37983a9d658cb90746bf400cbf89e5d760bfac9aa64c75ede9194e"), looks := true }, kinds := [], alts := [], laidByText := true, laidKinds := [.data, .data, .data, .data, .sentinel, .sentinel, .pinned], laidTests := true, laidLooks := .later }
def NoteAnyCardSaid : Prop := Claim7.holds Tryz.pinned (.plain (OpenSpec.ofChange noteAnySpec)) noteAnyCard

/-- THE TIED CARD OF 'hortatorlaw7.RuleLimits'. -/
def ruleLimitsCard : Claim7 := { stood := { row := ruleLimitsRow, standIns := [], harness := (true, "94fc2c4dbd37983a9d658cb90746bf400cbf89e5d760bfac9aa64c75ede9194e"), looks := true }, kinds := [], alts := [], laidByText := true, laidKinds := [.data, .data, .data, .data, .sentinel, .sentinel, .pinned], laidTests := true, laidLooks := .later }
def RuleLimitsCardSaid : Prop := Claim7.holds Tryz.pinned (.plain (OpenSpec.ofChange ruleLimitsSpec)) ruleLimitsCard

/-- THE TIED CARD OF 'hortatorlaw7.RulePieces'. -/
def rulePiecesCard : Claim7 := { stood := { row := rulePiecesRow, standIns := [], harness := (true, "94fc2c4dbd37983a9d658cb90746bf400cbf89e5d760bfac9aa64c75ede9194e"), looks := true }, kinds := [], alts := [], laidByText := true, laidKinds := [.data, .data, .data, .data, .sentinel, .sentinel, .pinned], laidTests := true, laidLooks := .later }
def RulePiecesCardSaid : Prop := Claim7.holds Tryz.pinned (.plain (OpenSpec.ofChange rulePiecesSpec)) rulePiecesCard

/-- THE TIED CARD OF 'hortatorlaw7.RuleLoads'. -/
def ruleLoadsCard : Claim7 := { stood := { row := ruleLoadsRow, standIns := [], harness := (true, "94fc2c4dbd37983a9d658cb90746bf400cbf89e5d760bfac9aa64c75ede9194e"), looks := true }, kinds := [], alts := [], laidByText := true, laidKinds := [.data, .data, .data, .data, .sentinel, .sentinel, .pinned], laidTests := true, laidLooks := .later }
def RuleLoadsCardSaid : Prop := Claim7.holds Tryz.pinned (.plain (OpenSpec.ofChange ruleLoadsSpec)) ruleLoadsCard

/-- THE TIED CARD OF 'hortatorlaw7.NoteNoughts'. -/
def noteNoughtsCard : Claim7 := { stood := { row := noteNoughtsRow, standIns := [], harness := (true, "94fc2c4dbd37983a9d658cb90746bf400cbf89e5d760bfac9aa64c75ede9194e"), looks := true }, kinds := [], alts := [], laidByText := true, laidKinds := [.data, .data, .data, .data, .sentinel, .sentinel, .pinned], laidTests := true, laidLooks := .later }
def NoteNoughtsCardSaid : Prop := Claim7.holds Tryz.pinned (.plain (OpenSpec.ofChange noteNoughtsSpec)) noteNoughtsCard

/-- THE TIED CARD OF 'hortatorlaw7.RuleSame'. -/
def ruleSameCard : Claim7 := { stood := { row := ruleSameRow, standIns := [], harness := (true, "94fc2c4dbd37983a9d658cb90746bf400cbf89e5d760bfac9aa64c75ede9194e"), looks := true }, kinds := [], alts := [], laidByText := true, laidKinds := [.data, .data, .data, .data, .sentinel, .sentinel, .pinned], laidTests := true, laidLooks := .later }
def RuleSameCardSaid : Prop := Claim7.holds Tryz.pinned (.plain (OpenSpec.ofChange ruleSameSpec)) ruleSameCard

/-- THE TIED CARD OF 'hortatorlaw7.RuleAgents'. -/
def ruleAgentsCard : Claim7 := { stood := { row := ruleAgentsRow, standIns := [], harness := (true, "94fc2c4dbd37983a9d658cb90746bf400cbf89e5d760bfac9aa64c75ede9194e"), looks := true }, kinds := [], alts := [], laidByText := true, laidKinds := [.data, .data, .data, .data, .sentinel, .sentinel, .pinned], laidTests := true, laidLooks := .later }
def RuleAgentsCardSaid : Prop := Claim7.holds Tryz.pinned (.plain (OpenSpec.ofChange ruleAgentsSpec)) ruleAgentsCard

/-- THE SECOND FORM's CARD OF 'hortatorlaw7.RuleAll'. -/
def ruleAllUptoCard : Claim7 := { stood := { row := ruleAllUptoRow, standIns := [], harness := (true, "94fc2c4dbd37983a9d658cb90746bf400cbf89e5d760bfac9aa64c75ede9194e"), looks := true }, kinds := [], alts := [], laidByText := true, laidKinds := [.data, .data, .data, .data, .sentinel, .sentinel, .pinned], laidTests := true, laidLooks := .later }
def RuleAllUptoCardSaid : Prop := Claim7.holds Tryz.pinned (.plain (OpenSpec.upto ruleAllSpec)) ruleAllUptoCard

/-- THE SECOND FORM's CARD OF 'hortatorlaw7.RuleTurn'. -/
def ruleTurnUptoCard : Claim7 := { stood := { row := ruleTurnUptoRow, standIns := [], harness := (true, "94fc2c4dbd37983a9d658cb90746bf400cbf89e5d760bfac9aa64c75ede9194e"), looks := true }, kinds := [], alts := [], laidByText := true, laidKinds := [.data, .data, .data, .data, .sentinel, .sentinel, .pinned], laidTests := true, laidLooks := .later }
def RuleTurnUptoCardSaid : Prop := Claim7.holds Tryz.pinned (.plain (OpenSpec.upto ruleTurnSpec)) ruleTurnUptoCard

/-- THE SECOND FORM's CARD OF 'hortatorlaw7.NoteAll'. -/
def noteAllUptoCard : Claim7 := { stood := { row := noteAllUptoRow, standIns := [], harness := (true, "94fc2c4dbd37983a9d658cb90746bf400cbf89e5d760bfac9aa64c75ede9194e"), looks := true }, kinds := [], alts := [], laidByText := true, laidKinds := [.data, .data, .data, .data, .sentinel, .sentinel, .pinned], laidTests := true, laidLooks := .later }
def NoteAllUptoCardSaid : Prop := Claim7.holds Tryz.pinned (.plain (OpenSpec.upto noteAllSpec)) noteAllUptoCard

/-- THE SECOND FORM's CARD OF 'hortatorlaw7.NoteAny'. -/
def noteAnyUptoCard : Claim7 := { stood := { row := noteAnyUptoRow, standIns := [], harness := (true, "94fc2c4dbd37983a9d658cb90746bf400cbf89e5d760bfac9aa64c75ede9194e"), looks := true }, kinds := [], alts := [], laidByText := true, laidKinds := [.data, .data, .data, .data, .sentinel, .sentinel, .pinned], laidTests := true, laidLooks := .later }
def NoteAnyUptoCardSaid : Prop := Claim7.holds Tryz.pinned (.plain (OpenSpec.upto noteAnySpec)) noteAnyUptoCard

/-- THE SECOND FORM's CARD OF 'hortatorlaw7.RuleLimits'. -/
def ruleLimitsUptoCard : Claim7 := { stood := { row := ruleLimitsUptoRow, standIns := [], harness := (true, "94fc2c4dbd37983a9d658cb90746bf400cbf89e5d760bfac9aa64c75ede9194e"), looks := true }, kinds := [], alts := [], laidByText := true, laidKinds := [.data, .data, .data, .data, .sentinel, .sentinel, .pinned], laidTests := true, laidLooks := .later }
def RuleLimitsUptoCardSaid : Prop := Claim7.holds Tryz.pinned (.plain (OpenSpec.upto ruleLimitsSpec)) ruleLimitsUptoCard

/-- THE SECOND FORM's CARD OF 'hortatorlaw7.RulePieces'. -/
def rulePiecesUptoCard : Claim7 := { stood := { row := rulePiecesUptoRow, standIns := [], harness := (true, "94fc2c4dbd37983a9d658cb90746bf400cbf89e5d760bfac9aa64c75ede9194e"), looks := true }, kinds := [], alts := [], laidByText := true, laidKinds := [.data, .data, .data, .data, .sentinel, .sentinel, .pinned], laidTests := true, laidLooks := .later }
def RulePiecesUptoCardSaid : Prop := Claim7.holds Tryz.pinned (.plain (OpenSpec.upto rulePiecesSpec)) rulePiecesUptoCard

/-- THE SECOND FORM's CARD OF 'hortatorlaw7.RuleLoads'. -/
def ruleLoadsUptoCard : Claim7 := { stood := { row := ruleLoadsUptoRow, standIns := [], harness := (true, "94fc2c4dbd37983a9d658cb90746bf400cbf89e5d760bfac9aa64c75ede9194e"), looks := true }, kinds := [], alts := [], laidByText := true, laidKinds := [.data, .data, .data, .data, .sentinel, .sentinel, .pinned], laidTests := true, laidLooks := .later }
def RuleLoadsUptoCardSaid : Prop := Claim7.holds Tryz.pinned (.plain (OpenSpec.upto ruleLoadsSpec)) ruleLoadsUptoCard

/-- THE SECOND FORM's CARD OF 'hortatorlaw7.NoteNoughts'. -/
def noteNoughtsUptoCard : Claim7 := { stood := { row := noteNoughtsUptoRow, standIns := [], harness := (true, "94fc2c4dbd37983a9d658cb90746bf400cbf89e5d760bfac9aa64c75ede9194e"), looks := true }, kinds := [], alts := [], laidByText := true, laidKinds := [.data, .data, .data, .data, .sentinel, .sentinel, .pinned], laidTests := true, laidLooks := .later }
def NoteNoughtsUptoCardSaid : Prop := Claim7.holds Tryz.pinned (.plain (OpenSpec.upto noteNoughtsSpec)) noteNoughtsUptoCard

/-- THE SECOND FORM's CARD OF 'hortatorlaw7.RuleSame'. -/
def ruleSameUptoCard : Claim7 := { stood := { row := ruleSameUptoRow, standIns := [], harness := (true, "94fc2c4dbd37983a9d658cb90746bf400cbf89e5d760bfac9aa64c75ede9194e"), looks := true }, kinds := [], alts := [], laidByText := true, laidKinds := [.data, .data, .data, .data, .sentinel, .sentinel, .pinned], laidTests := true, laidLooks := .later }
def RuleSameUptoCardSaid : Prop := Claim7.holds Tryz.pinned (.plain (OpenSpec.upto ruleSameSpec)) ruleSameUptoCard

/-- THE SECOND FORM's CARD OF 'hortatorlaw7.RuleAgents'. -/
def ruleAgentsUptoCard : Claim7 := { stood := { row := ruleAgentsUptoRow, standIns := [], harness := (true, "94fc2c4dbd37983a9d658cb90746bf400cbf89e5d760bfac9aa64c75ede9194e"), looks := true }, kinds := [], alts := [], laidByText := true, laidKinds := [.data, .data, .data, .data, .sentinel, .sentinel, .pinned], laidTests := true, laidLooks := .later }
def RuleAgentsUptoCardSaid : Prop := Claim7.holds Tryz.pinned (.plain (OpenSpec.upto ruleAgentsSpec)) ruleAgentsUptoCard
end Rows
end Go.Proofs.YtjjlicancbmjiaaGreatDoor
