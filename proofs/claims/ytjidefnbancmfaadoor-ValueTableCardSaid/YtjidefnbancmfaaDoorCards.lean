/-
  DERIVED. GIVEN WITH THE SEED: THE CARDS: each row of YtjidefnbancmfaaDoorRows.lean that lists a variable, with what it lists TIED to the program's text (the seventh form; the later family's looks); each row that meets fmt, with fmt's text TOLD by the authors' own Lean function (tested against real Go, not proved from fmt's source: count such statements apart). THE CARD IS WHAT COUNTS. Prove the row's statement (the work); the ties are given (YtjidefnbancmfaaDoorTie.lean); close each card by the builder's one call (the guide's Derived/Test/ToyasCard.lean, 'card_holds'). Laid BY PROGRAM, IN A SANDBOX (cutbox-door.mjs). By AI agents, Wed Nov 11 2026. No macro, syntax, notation, axiom, sorry.
-/
import Derived.Test.YtjidefnbancmfaaDoorRows
import GoSem.ClaimSeven
namespace Go.Proofs.YtjidefnbancmfaaDoor
namespace Rows

/-- THE TIED CARD OF 'delphilaw6.ValueTable'. -/
def valueTableCard : Claim7 := { stood := { row := valueTableRow, standIns := [], harness := (true, "a8d9581dfe45841ed0473498917df9885dfe58e64054103e19448031f3d2bdf0"), looks := false }, kinds := [], alts := [], laidByText := true, laidKinds := [.data, .data, .data], laidTests := true, laidLooks := .later }
def ValueTableCardSaid : Prop := Claim7.holds Tryd.pinned (.plain (OpenSpec.ofChange valueTableSpec)) valueTableCard

/-- THE TIED CARD OF 'delphilaw6.ValueFact'. -/
def valueFactCard : Claim7 := { stood := { row := valueFactRow, standIns := [], harness := (true, "a8d9581dfe45841ed0473498917df9885dfe58e64054103e19448031f3d2bdf0"), looks := false }, kinds := [], alts := [], laidByText := true, laidKinds := [.data, .data, .data], laidTests := true, laidLooks := .later }
def ValueFactCardSaid : Prop := Claim7.holds Tryd.pinned (.plain (OpenSpec.ofChange valueFactSpec)) valueFactCard

/-- THE TIED CARD OF 'delphilaw6.ValueWords'. -/
def valueWordsCard : Claim7 := { stood := { row := valueWordsRow, standIns := [], harness := (true, "a8d9581dfe45841ed0473498917df9885dfe58e64054103e19448031f3d2bdf0"), looks := false }, kinds := [], alts := [], laidByText := true, laidKinds := [.data, .data, .data], laidTests := true, laidLooks := .later }
def ValueWordsCardSaid : Prop := Claim7.holds Tryd.pinned (.plain (OpenSpec.ofChange valueWordsSpec)) valueWordsCard

/-- THE TIED CARD OF 'delphilaw6.ValueOrder'. -/
def valueOrderCard : Claim7 := { stood := { row := valueOrderRow, standIns := [], harness := (true, "a8d9581dfe45841ed0473498917df9885dfe58e64054103e19448031f3d2bdf0"), looks := false }, kinds := [], alts := [], laidByText := true, laidKinds := [.data, .data, .data], laidTests := true, laidLooks := .later }
def ValueOrderCardSaid : Prop := Claim7.holds Tryd.pinned (.plain (OpenSpec.ofChange valueOrderSpec)) valueOrderCard

/-- THE SECOND FORM's CARD OF 'delphilaw6.ValueTable'. -/
def valueTableUptoCard : Claim7 := { stood := { row := valueTableUptoRow, standIns := [], harness := (true, "a8d9581dfe45841ed0473498917df9885dfe58e64054103e19448031f3d2bdf0"), looks := false }, kinds := [], alts := [], laidByText := true, laidKinds := [.data, .data, .data], laidTests := true, laidLooks := .later }
def ValueTableUptoCardSaid : Prop := Claim7.holds Tryd.pinned (.plain (OpenSpec.upto valueTableSpec)) valueTableUptoCard

/-- THE SECOND FORM's CARD OF 'delphilaw6.ValueFact'. -/
def valueFactUptoCard : Claim7 := { stood := { row := valueFactUptoRow, standIns := [], harness := (true, "a8d9581dfe45841ed0473498917df9885dfe58e64054103e19448031f3d2bdf0"), looks := false }, kinds := [], alts := [], laidByText := true, laidKinds := [.data, .data, .data], laidTests := true, laidLooks := .later }
def ValueFactUptoCardSaid : Prop := Claim7.holds Tryd.pinned (.plain (OpenSpec.upto valueFactSpec)) valueFactUptoCard

/-- THE SECOND FORM's CARD OF 'delphilaw6.ValueWords'. -/
def valueWordsUptoCard : Claim7 := { stood := { row := valueWordsUptoRow, standIns := [], harness := (true, "a8d9581dfe45841ed0473498917df9885dfe58e64054103e19448031f3d2bdf0"), looks := false }, kinds := [], alts := [], laidByText := true, laidKinds := [.data, .data, .data], laidTests := true, laidLooks := .later }
def ValueWordsUptoCardSaid : Prop := Claim7.holds Tryd.pinned (.plain (OpenSpec.upto valueWordsSpec)) valueWordsUptoCard

/-- THE SECOND FORM's CARD OF 'delphilaw6.ValueOrder'. -/
def valueOrderUptoCard : Claim7 := { stood := { row := valueOrderUptoRow, standIns := [], harness := (true, "a8d9581dfe45841ed0473498917df9885dfe58e64054103e19448031f3d2bdf0"), looks := false }, kinds := [], alts := [], laidByText := true, laidKinds := [.data, .data, .data], laidTests := true, laidLooks := .later }
def ValueOrderUptoCardSaid : Prop := Claim7.holds Tryd.pinned (.plain (OpenSpec.upto valueOrderSpec)) valueOrderUptoCard
end Rows
end Go.Proofs.YtjidefnbancmfaaDoor
