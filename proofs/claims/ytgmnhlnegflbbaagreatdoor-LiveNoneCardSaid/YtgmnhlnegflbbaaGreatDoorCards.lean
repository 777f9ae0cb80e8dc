/-
  DERIVED. GIVEN WITH THE SEED: THE CARDS: each row of YtgmnhlnegflbbaaGreatDoorRows.lean that lists a variable, with what it lists TIED to the program's text (the seventh form; the later family's looks); each row that meets fmt, with fmt's text TOLD by the authors' own Lean function (tested against real Go, not proved from fmt's source: count such statements apart). THE CARD IS WHAT COUNTS. Prove the row's statement (the work); the ties are given (YtgmnhlnegflbbaaGreatDoorTie.lean); close each card by the builder's one call (the guide's Derived/Test/ToyasCard.lean, 'card_holds'). Laid BY PROGRAM, IN A SANDBOX (cutbox-door.mjs). By AI agents, Wed Nov 11 2026. No macro, syntax, notation, axiom, sorry.
-/
import Derived.Test.YtgmnhlnegflbbaaGreatDoorRows
import GoSem.ClaimSeven
namespace Go.Proofs.YtgmnhlnegflbbaaGreatDoor
namespace Rows

/-- THE TIED CARD OF 'delphilaw14.ModelNone'. -/
def modelNoneCard : Claim7 := { stood := { row := modelNoneRow, standIns := [], harness := (true, "c56514c199318d88b321a0538b39eb2fd1da6a548a1bbf8db8378b68e67af646"), looks := true }, kinds := [], alts := [], laidByText := true, laidKinds := [.data, .data, .data], laidTests := true, laidLooks := .later }
def ModelNoneCardSaid : Prop := Claim7.holds Tryz.pinned (.plain (OpenSpec.ofChange modelNoneSpec)) modelNoneCard

/-- THE TIED CARD OF 'delphilaw15.LiveNone'. -/
def liveNoneCard : Claim7 := { stood := { row := liveNoneRow, standIns := [], harness := (true, "c56514c199318d88b321a0538b39eb2fd1da6a548a1bbf8db8378b68e67af646"), looks := true }, kinds := [], alts := [], laidByText := true, laidKinds := [.data, .data, .data], laidTests := true, laidLooks := .later }
def LiveNoneCardSaid : Prop := Claim7.holds Tryz.pinned (.plain (OpenSpec.ofChange liveNoneSpec)) liveNoneCard

/-- THE TIED CARD OF 'delphilaw18.MachineNone'. -/
def machineNoneCard : Claim7 := { stood := { row := machineNoneRow, standIns := [], harness := (true, "c56514c199318d88b321a0538b39eb2fd1da6a548a1bbf8db8378b68e67af646"), looks := true }, kinds := [], alts := [], laidByText := true, laidKinds := [.data, .data, .data, .sentinel, .sentinel], laidTests := true, laidLooks := .later }
def MachineNoneCardSaid : Prop := Claim7.holds Tryz.pinned (.plain (OpenSpec.ofChange machineNoneSpec)) machineNoneCard

/-- THE SECOND FORM's CARD OF 'delphilaw14.ModelNone'. -/
def modelNoneUptoCard : Claim7 := { stood := { row := modelNoneUptoRow, standIns := [], harness := (true, "c56514c199318d88b321a0538b39eb2fd1da6a548a1bbf8db8378b68e67af646"), looks := true }, kinds := [], alts := [], laidByText := true, laidKinds := [.data, .data, .data], laidTests := true, laidLooks := .later }
def ModelNoneUptoCardSaid : Prop := Claim7.holds Tryz.pinned (.plain (OpenSpec.upto modelNoneSpec)) modelNoneUptoCard

/-- THE SECOND FORM's CARD OF 'delphilaw15.LiveNone'. -/
def liveNoneUptoCard : Claim7 := { stood := { row := liveNoneUptoRow, standIns := [], harness := (true, "c56514c199318d88b321a0538b39eb2fd1da6a548a1bbf8db8378b68e67af646"), looks := true }, kinds := [], alts := [], laidByText := true, laidKinds := [.data, .data, .data], laidTests := true, laidLooks := .later }
def LiveNoneUptoCardSaid : Prop := Claim7.holds Tryz.pinned (.plain (OpenSpec.upto liveNoneSpec)) liveNoneUptoCard

/-- THE SECOND FORM's CARD OF 'delphilaw18.MachineNone'. -/
def machineNoneUptoCard : Claim7 := { stood := { row := machineNoneUptoRow, standIns := [], harness := (true, "c56514c199318d88b321a0538b39eb2fd1da6a548a1bbf8db8378b68e67af646"), looks := true }, kinds := [], alts := [], laidByText := true, laidKinds := [.data, .data, .data, .sentinel, .sentinel], laidTests := true, laidLooks := .later }
def MachineNoneUptoCardSaid : Prop := Claim7.holds Tryz.pinned (.plain (OpenSpec.upto machineNoneSpec)) machineNoneUptoCard
end Rows
end Go.Proofs.YtgmnhlnegflbbaaGreatDoor
