/-
  DERIVED. GIVEN WITH THE SEED: THE CARDS: each row of YtpbdojjfokelaaaDoorRows.lean that lists a variable, with what it lists TIED to the program's text (the seventh form; the later family's looks); each row that meets fmt, with fmt's text TOLD by the authors' own Lean function (tested against real Go, not proved from fmt's source: count such statements apart). THE CARD IS WHAT COUNTS. Prove the row's statement (the work); the ties are given (YtpbdojjfokelaaaDoorTie.lean); close each card by the builder's one call (the guide's Derived/Test/ToyasCard.lean, 'card_holds'). Laid BY PROGRAM, IN A SANDBOX (cutbox-door.mjs). By AI agents, Wed Nov 11 2026. No macro, syntax, notation, axiom, sorry.
-/
import Derived.Test.YtpbdojjfokelaaaDoorRows
import GoSem.ClaimSeven
namespace Go.Proofs.YtpbdojjfokelaaaDoor
namespace Rows

/-- THE TIED CARD OF 'delphilaw13.JoinCross'. -/
def joinCrossCard : Claim7 := { stood := { row := joinCrossRow, standIns := [], harness := (true, "7843a5699bda0e4c2627c6823aaf590ac9bb11861cb6c615e94caabe945d7e1d"), looks := true }, kinds := [], alts := [], laidByText := true, laidKinds := [.data, .data, .data], laidTests := true, laidLooks := .later }
def JoinCrossCardSaid : Prop := Claim7.holds Tryd.pinned (.plain (OpenSpec.ofChange joinCrossSpec)) joinCrossCard

/-- THE TIED CARD OF 'delphilaw13.JoinHolds'. -/
def joinHoldsCard : Claim7 := { stood := { row := joinHoldsRow, standIns := [], harness := (true, "7843a5699bda0e4c2627c6823aaf590ac9bb11861cb6c615e94caabe945d7e1d"), looks := true }, kinds := [], alts := [], laidByText := true, laidKinds := [.data, .data, .data], laidTests := true, laidLooks := .later }
def JoinHoldsCardSaid : Prop := Claim7.holds Tryd.pinned (.plain (OpenSpec.ofChange joinHoldsSpec)) joinHoldsCard

/-- THE TIED CARD OF 'delphilaw8.SyntaxProgram'. -/
def syntaxProgramCard : Claim7 := { stood := { row := syntaxProgramRow, standIns := [], harness := (true, "7843a5699bda0e4c2627c6823aaf590ac9bb11861cb6c615e94caabe945d7e1d"), looks := true }, kinds := [], alts := [], laidByText := true, laidKinds := [.data, .data, .data, .sentinel, .sentinel], laidTests := true, laidLooks := .later }
def SyntaxProgramCardSaid : Prop := Claim7.holds Tryd.pinned (.plain (OpenSpec.ofChange syntaxProgramSpec)) syntaxProgramCard

/-- THE TIED CARD OF 'delphilaw8.SyntaxMany'. -/
def syntaxManyCard : Claim7 := { stood := { row := syntaxManyRow, standIns := [], harness := (true, "7843a5699bda0e4c2627c6823aaf590ac9bb11861cb6c615e94caabe945d7e1d"), looks := true }, kinds := [], alts := [], laidByText := true, laidKinds := [.data, .data, .data, .sentinel, .sentinel], laidTests := true, laidLooks := .later }
def SyntaxManyCardSaid : Prop := Claim7.holds Tryd.pinned (.plain (OpenSpec.ofChange syntaxManySpec)) syntaxManyCard

/-- THE TIED CARD OF 'delphilaw8.SyntaxBlanks'. -/
def syntaxBlanksCard : Claim7 := { stood := { row := syntaxBlanksRow, standIns := [], harness := (true, "7843a5699bda0e4c2627c6823aaf590ac9bb11861cb6c615e94caabe945d7e1d"), looks := true }, kinds := [], alts := [], laidByText := true, laidKinds := [.data, .data, .data, .sentinel, .sentinel], laidTests := true, laidLooks := .later }
def SyntaxBlanksCardSaid : Prop := Claim7.holds Tryd.pinned (.plain (OpenSpec.ofChange syntaxBlanksSpec)) syntaxBlanksCard

/-- THE TIED CARD OF 'delphilaw8.SyntaxFirst'. -/
def syntaxFirstCard : Claim7 := { stood := { row := syntaxFirstRow, standIns := [], harness := (true, "7843a5699bda0e4c2627c6823aaf590ac9bb11861cb6c615e94caabe945d7e1d"), looks := true }, kinds := [], alts := [], laidByText := true, laidKinds := [.data, .data, .data, .sentinel, .sentinel], laidTests := true, laidLooks := .later }
def SyntaxFirstCardSaid : Prop := Claim7.holds Tryd.pinned (.plain (OpenSpec.ofChange syntaxFirstSpec)) syntaxFirstCard

/-- THE TIED CARD OF 'delphilaw8.SyntaxFact'. -/
def syntaxFactCard : Claim7 := { stood := { row := syntaxFactRow, standIns := [], harness := (true, "7843a5699bda0e4c2627c6823aaf590ac9bb11861cb6c615e94caabe945d7e1d"), looks := true }, kinds := [], alts := [], laidByText := true, laidKinds := [.data, .data, .data, .sentinel, .sentinel], laidTests := true, laidLooks := .later }
def SyntaxFactCardSaid : Prop := Claim7.holds Tryd.pinned (.plain (OpenSpec.ofChange syntaxFactSpec)) syntaxFactCard

/-- THE SECOND FORM's CARD OF 'delphilaw13.JoinCross'. -/
def joinCrossUptoCard : Claim7 := { stood := { row := joinCrossUptoRow, standIns := [], harness := (true, "7843a5699bda0e4c2627c6823aaf590ac9bb11861cb6c615e94caabe945d7e1d"), looks := true }, kinds := [], alts := [], laidByText := true, laidKinds := [.data, .data, .data], laidTests := true, laidLooks := .later }
def JoinCrossUptoCardSaid : Prop := Claim7.holds Tryd.pinned (.plain (OpenSpec.upto joinCrossSpec)) joinCrossUptoCard

/-- THE SECOND FORM's CARD OF 'delphilaw13.JoinHolds'. -/
def joinHoldsUptoCard : Claim7 := { stood := { row := joinHoldsUptoRow, standIns := [], harness := (true, "7843a5699bda0e4c2627c6823aaf590ac9bb11861cb6c615e94caabe945d7e1d"), looks := true }, kinds := [], alts := [], laidByText := true, laidKinds := [.data, .data, .data], laidTests := true, laidLooks := .later }
def JoinHoldsUptoCardSaid : Prop := Claim7.holds Tryd.pinned (.plain (OpenSpec.upto joinHoldsSpec)) joinHoldsUptoCard

/-- THE SECOND FORM's CARD OF 'delphilaw8.SyntaxProgram'. -/
def syntaxProgramUptoCard : Claim7 := { stood := { row := syntaxProgramUptoRow, standIns := [], harness := (true, "7843a5699bda0e4c2627c6823aaf590ac9bb11861cb6c615e94caabe945d7e1d"), looks := true }, kinds := [], alts := [], laidByText := true, laidKinds := [.data, .data, .data, .sentinel, .sentinel], laidTests := true, laidLooks := .later }
def SyntaxProgramUptoCardSaid : Prop := Claim7.holds Tryd.pinned (.plain (OpenSpec.upto syntaxProgramSpec)) syntaxProgramUptoCard

/-- THE SECOND FORM's CARD OF 'delphilaw8.SyntaxMany'. -/
def syntaxManyUptoCard : Claim7 := { stood := { row := syntaxManyUptoRow, standIns := [], harness := (true, "7843a5699bda0e4c2627c6823aaf590ac9bb11861cb6c615e94caabe945d7e1d"), looks := true }, kinds := [], alts := [], laidByText := true, laidKinds := [.data, .data, .data, .sentinel, .sentinel], laidTests := true, laidLooks := .later }
def SyntaxManyUptoCardSaid : Prop := Claim7.holds Tryd.pinned (.plain (OpenSpec.upto syntaxManySpec)) syntaxManyUptoCard

/-- THE SECOND FORM's CARD OF 'delphilaw8.SyntaxBlanks'. -/
def syntaxBlanksUptoCard : Claim7 := { stood := { row := syntaxBlanksUptoRow, standIns := [], harness := (true, "7843a5699bda0e4c2627c6823aaf590ac9bb11861cb6c615e94caabe945d7e1d"), looks := true }, kinds := [], alts := [], laidByText := true, laidKinds := [.data, .data, .data, .sentinel, .sentinel], laidTests := true, laidLooks := .later }
def SyntaxBlanksUptoCardSaid : Prop := Claim7.holds Tryd.pinned (.plain (OpenSpec.upto syntaxBlanksSpec)) syntaxBlanksUptoCard

/-- THE SECOND FORM's CARD OF 'delphilaw8.SyntaxFirst'. -/
def syntaxFirstUptoCard : Claim7 := { stood := { row := syntaxFirstUptoRow, standIns := [], harness := (true, "7843a5699bda0e4c2627c6823aaf590ac9bb11861cb6c615e94caabe945d7e1d"), looks := true }, kinds := [], alts := [], laidByText := true, laidKinds := [.data, .data, .data, .sentinel, .sentinel], laidTests := true, laidLooks := .later }
def SyntaxFirstUptoCardSaid : Prop := Claim7.holds Tryd.pinned (.plain (OpenSpec.upto syntaxFirstSpec)) syntaxFirstUptoCard

/-- THE SECOND FORM's CARD OF 'delphilaw8.SyntaxFact'. -/
def syntaxFactUptoCard : Claim7 := { stood := { row := syntaxFactUptoRow, standIns := [], harness := (true, "7843a5699bda0e4c2627c6823aaf590ac9bb11861cb6c615e94caabe945d7e1d"), looks := true }, kinds := [], alts := [], laidByText := true, laidKinds := [.data, .data, .data, .sentinel, .sentinel], laidTests := true, laidLooks := .later }
def SyntaxFactUptoCardSaid : Prop := Claim7.holds Tryd.pinned (.plain (OpenSpec.upto syntaxFactSpec)) syntaxFactUptoCard
end Rows
end Go.Proofs.YtpbdojjfokelaaaDoor
