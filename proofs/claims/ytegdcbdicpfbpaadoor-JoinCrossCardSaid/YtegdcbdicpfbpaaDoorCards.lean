/-
  DERIVED. GIVEN WITH THE SEED: THE CARDS: each row of YtegdcbdicpfbpaaDoorRows.lean that lists a variable, with what it lists TIED to the program's text (the seventh form; the later family's looks); each row that meets fmt, with fmt's text TOLD by the authors' own Lean function (tested against real Go, not proved from fmt's source: count such statements apart). THE CARD IS WHAT COUNTS. Prove the row's statement (the work); the ties are given (YtegdcbdicpfbpaaDoorTie.lean); close each card by the builder's one call (the guide's Derived/Test/ToyasCard.lean, 'card_holds'). Laid BY PROGRAM, IN A SANDBOX (cutbox-door.mjs). By AI agents, Wed Nov 11 2026. No macro, syntax, notation, axiom, sorry.
-/
import Derived.Test.YtegdcbdicpfbpaaDoorRows
import GoSem.ClaimSeven
namespace Go.Proofs.YtegdcbdicpfbpaaDoor
namespace Rows

/-- THE TIED CARD OF 'delphilaw13.JoinCross'. -/
def joinCrossCard : Claim7 := { stood := { row := joinCrossRow, standIns := [], harness := (true, "8f1337235a945ed3769cf52a1e6762d44b910db9e377e7aa7912d3d72c61ad0b"), looks := true }, kinds := [], alts := [], laidByText := true, laidKinds := [.data, .data, .data], laidTests := true, laidLooks := .later }
def JoinCrossCardSaid : Prop := Claim7.holds Tryd.pinned (.plain (OpenSpec.ofChange joinCrossSpec)) joinCrossCard

/-- THE TIED CARD OF 'delphilaw13.JoinHolds'. -/
def joinHoldsCard : Claim7 := { stood := { row := joinHoldsRow, standIns := [], harness := (true, "8f1337235a945ed3769cf52a1e6762d44b910db9e377e7aa7912d3d72c61ad0b"), looks := true }, kinds := [], alts := [], laidByText := true, laidKinds := [.data, .data, .data], laidTests := true, laidLooks := .later }
def JoinHoldsCardSaid : Prop := Claim7.holds Tryd.pinned (.plain (OpenSpec.ofChange joinHoldsSpec)) joinHoldsCard

/-- THE SECOND FORM's CARD OF 'delphilaw13.JoinCross'. -/
def joinCrossUptoCard : Claim7 := { stood := { row := joinCrossUptoRow, standIns := [], harness := (true, "8f1337235a945ed3769cf52a1e6762d44b910db9e377e7aa7912d3d72c61ad0b"), looks := true }, kinds := [], alts := [], laidByText := true, laidKinds := [.data, .data, .data], laidTests := true, laidLooks := .later }
def JoinCrossUptoCardSaid : Prop := Claim7.holds Tryd.pinned (.plain (OpenSpec.upto joinCrossSpec)) joinCrossUptoCard

/-- THE SECOND FORM's CARD OF 'delphilaw13.JoinHolds'. -/
def joinHoldsUptoCard : Claim7 := { stood := { row := joinHoldsUptoRow, standIns := [], harness := (true, "8f1337235a945ed3769cf52a1e6762d44b910db9e377e7aa7912d3d72c61ad0b"), looks := true }, kinds := [], alts := [], laidByText := true, laidKinds := [.data, .data, .data], laidTests := true, laidLooks := .later }
def JoinHoldsUptoCardSaid : Prop := Claim7.holds Tryd.pinned (.plain (OpenSpec.upto joinHoldsSpec)) joinHoldsUptoCard
end Rows
end Go.Proofs.YtegdcbdicpfbpaaDoor
