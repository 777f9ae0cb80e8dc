/-
  DERIVED. GIVEN WITH THE SEED: THE CARDS: each row of YtladocoibpljnaaGreatDoorRows.lean that lists a variable, with what it lists TIED to the program's text (the seventh form; the later family's looks); each row that meets fmt, with fmt's text TOLD by the authors' own Lean function (tested against real Go, not proved from fmt's source: count such statements apart). THE CARD IS WHAT COUNTS. Prove the row's statement (the work); the ties are given (YtladocoibpljnaaGreatDoorTie.lean); close each card by the builder's one call (the guide's Derived/Test/ToyasCard.lean, 'card_holds'). Laid BY PROGRAM, IN A SANDBOX (cutbox-door.mjs). By AI agents, Wed Nov 11 2026. No macro, syntax, notation, axiom, sorry.
-/
import Derived.Test.YtladocoibpljnaaGreatDoorRows
import GoSem.ClaimSeven
namespace Go.Proofs.YtladocoibpljnaaGreatDoor
namespace Rows

/-- THE TIED CARD OF 'delphilaw14.ModelStrata'. -/
def modelStrataCard : Claim7 := { stood := { row := modelStrataRow, standIns := [], harness := (true, "8870b991bcfcd8666ccf9c70574bac290486ee51aebe4ef2fd1e1670fda2cf58"), looks := true }, kinds := [], alts := [], laidByText := true, laidKinds := [.data, .data, .data], laidTests := true, laidLooks := .later }
def ModelStrataCardSaid : Prop := Claim7.holds Tryz.pinned (.plain (OpenSpec.ofChange modelStrataSpec)) modelStrataCard

/-- THE TIED CARD OF 'delphilaw26.HistoryOld'. -/
def historyOldCard : Claim7 := { stood := { row := historyOldRow, standIns := [], harness := (true, "8870b991bcfcd8666ccf9c70574bac290486ee51aebe4ef2fd1e1670fda2cf58"), looks := true }, kinds := [], alts := [], laidByText := true, laidKinds := [.data, .data, .data, .sentinel, .sentinel], laidTests := true, laidLooks := .later }
def HistoryOldCardSaid : Prop := Claim7.holds Tryz.pinned (.plain (OpenSpec.ofChange historyOldSpec)) historyOldCard

/-- THE TIED CARD OF 'delphilaw26.HistoryTwice'. -/
def historyTwiceCard : Claim7 := { stood := { row := historyTwiceRow, standIns := [], harness := (true, "8870b991bcfcd8666ccf9c70574bac290486ee51aebe4ef2fd1e1670fda2cf58"), looks := true }, kinds := [], alts := [], laidByText := true, laidKinds := [.data, .data, .data, .sentinel, .sentinel], laidTests := true, laidLooks := .later }
def HistoryTwiceCardSaid : Prop := Claim7.holds Tryz.pinned (.plain (OpenSpec.ofChange historyTwiceSpec)) historyTwiceCard

/-- THE SECOND FORM's CARD OF 'delphilaw14.ModelStrata'. -/
def modelStrataUptoCard : Claim7 := { stood := { row := modelStrataUptoRow, standIns := [], harness := (true, "8870b991bcfcd8666ccf9c70574bac290486ee51aebe4ef2fd1e1670fda2cf58"), looks := true }, kinds := [], alts := [], laidByText := true, laidKinds := [.data, .data, .data], laidTests := true, laidLooks := .later }
def ModelStrataUptoCardSaid : Prop := Claim7.holds Tryz.pinned (.plain (OpenSpec.upto modelStrataSpec)) modelStrataUptoCard

/-- THE SECOND FORM's CARD OF 'delphilaw26.HistoryOld'. -/
def historyOldUptoCard : Claim7 := { stood := { row := historyOldUptoRow, standIns := [], harness := (true, "8870b991bcfcd8666ccf9c70574bac290486ee51aebe4ef2fd1e1670fda2cf58"), looks := true }, kinds := [], alts := [], laidByText := true, laidKinds := [.data, .data, .data, .sentinel, .sentinel], laidTests := true, laidLooks := .later }
def HistoryOldUptoCardSaid : Prop := Claim7.holds Tryz.pinned (.plain (OpenSpec.upto historyOldSpec)) historyOldUptoCard

/-- THE SECOND FORM's CARD OF 'delphilaw26.HistoryTwice'. -/
def historyTwiceUptoCard : Claim7 := { stood := { row := historyTwiceUptoRow, standIns := [], harness := (true, "8870b991bcfcd8666ccf9c70574bac290486ee51aebe4ef2fd1e1670fda2cf58"), looks := true }, kinds := [], alts := [], laidByText := true, laidKinds := [.data, .data, .data, .sentinel, .sentinel], laidTests := true, laidLooks := .later }
def HistoryTwiceUptoCardSaid : Prop := Claim7.holds Tryz.pinned (.plain (OpenSpec.upto historyTwiceSpec)) historyTwiceUptoCard
end Rows
end Go.Proofs.YtladocoibpljnaaGreatDoor
