/-
  DERIVED. GIVEN WITH THE SEED: THE CARDS: each row of YtegdcbdicpfbpaaGreatDoorRows.lean that lists a variable, with what it lists TIED to the program's text (the seventh form; the later family's looks); each row that meets fmt, with fmt's text TOLD by the authors' own Lean function (tested against real Go, not proved from fmt's source: count such statements apart). THE CARD IS WHAT COUNTS. Prove the row's statement (the work); the ties are given (YtegdcbdicpfbpaaGreatDoorTie.lean); close each card by the builder's one call (the guide's Derived/Test/ToyasCard.lean, 'card_holds'). Laid BY PROGRAM, IN A SANDBOX (cutbox-door.mjs). By AI agents, Wed Nov 11 2026. No macro, syntax, notation, axiom, sorry.
-/
import Derived.Test.YtegdcbdicpfbpaaGreatDoorRows
import GoSem.ClaimSeven
namespace Go.Proofs.YtegdcbdicpfbpaaGreatDoor
namespace Rows

/-- THE TIED CARD OF 'delphilaw13.JoinRule'. -/
def joinRuleCard : Claim7 := { stood := { row := joinRuleRow, standIns := [], harness := (true, "3762a6fc36db121969d3ef59877ea1c21e174ff143d0f8cd60f2d24b9df40337"), looks := true }, kinds := [], alts := [], laidByText := true, laidKinds := [.data, .data, .data], laidTests := true, laidLooks := .later }
def JoinRuleCardSaid : Prop := Claim7.holds Tryz.pinned (.plain (OpenSpec.ofChange joinRuleSpec)) joinRuleCard

/-- THE TIED CARD OF 'delphilaw13.JoinDelta'. -/
def joinDeltaCard : Claim7 := { stood := { row := joinDeltaRow, standIns := [], harness := (true, "3762a6fc36db121969d3ef59877ea1c21e174ff143d0f8cd60f2d24b9df40337"), looks := true }, kinds := [], alts := [], laidByText := true, laidKinds := [.data, .data, .data], laidTests := true, laidLooks := .later }
def JoinDeltaCardSaid : Prop := Claim7.holds Tryz.pinned (.plain (OpenSpec.ofChange joinDeltaSpec)) joinDeltaCard

/-- THE TIED CARD OF 'delphilaw8.SyntaxPrint'. -/
def syntaxPrintCard : Claim7 := { stood := { row := syntaxPrintRow, standIns := [], harness := (true, "3762a6fc36db121969d3ef59877ea1c21e174ff143d0f8cd60f2d24b9df40337"), looks := true }, kinds := [], alts := [], laidByText := true, laidKinds := [.data, .data, .data, .sentinel, .sentinel], laidTests := true, laidLooks := .later }
def SyntaxPrintCardSaid : Prop := Claim7.holds Tryz.pinned (.plain (OpenSpec.ofChange syntaxPrintSpec)) syntaxPrintCard

/-- THE SECOND FORM's CARD OF 'delphilaw13.JoinRule'. -/
def joinRuleUptoCard : Claim7 := { stood := { row := joinRuleUptoRow, standIns := [], harness := (true, "3762a6fc36db121969d3ef59877ea1c21e174ff143d0f8cd60f2d24b9df40337"), looks := true }, kinds := [], alts := [], laidByText := true, laidKinds := [.data, .data, .data], laidTests := true, laidLooks := .later }
def JoinRuleUptoCardSaid : Prop := Claim7.holds Tryz.pinned (.plain (OpenSpec.upto joinRuleSpec)) joinRuleUptoCard

/-- THE SECOND FORM's CARD OF 'delphilaw13.JoinDelta'. -/
def joinDeltaUptoCard : Claim7 := { stood := { row := joinDeltaUptoRow, standIns := [], harness := (true, "3762a6fc36db121969d3ef59877ea1c21e174ff143d0f8cd60f2d24b9df40337"), looks := true }, kinds := [], alts := [], laidByText := true, laidKinds := [.data, .data, .data], laidTests := true, laidLooks := .later }
def JoinDeltaUptoCardSaid : Prop := Claim7.holds Tryz.pinned (.plain (OpenSpec.upto joinDeltaSpec)) joinDeltaUptoCard

/-- THE SECOND FORM's CARD OF 'delphilaw8.SyntaxPrint'. -/
def syntaxPrintUptoCard : Claim7 := { stood := { row := syntaxPrintUptoRow, standIns := [], harness := (true, "3762a6fc36db121969d3ef59877ea1c21e174ff143d0f8cd60f2d24b9df40337"), looks := true }, kinds := [], alts := [], laidByText := true, laidKinds := [.data, .data, .data, .sentinel, .sentinel], laidTests := true, laidLooks := .later }
def SyntaxPrintUptoCardSaid : Prop := Claim7.holds Tryz.pinned (.plain (OpenSpec.upto syntaxPrintSpec)) syntaxPrintUptoCard
end Rows
end Go.Proofs.YtegdcbdicpfbpaaGreatDoor
