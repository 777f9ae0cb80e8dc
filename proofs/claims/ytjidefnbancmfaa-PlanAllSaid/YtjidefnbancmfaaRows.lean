/-
  No cell of these rows narrows 'for every input' (looked for: loops, veiled, ifaces, maps, wideKeys, modest, calm, conditions, laid).
  DERIVED. THE GIVEN ROWS OF THIS SEAT. 10 by the template 'for every input the law returns true; each argument reads behind the call as it read before'; 0 by the template 'total and deterministic' (their statements: YtjidefnbancmfaaTotals.lean).
  GIVEN WITH THE SEED: the statements are not yours to turn. If you find one false, say at which input.
  Laid BY PROGRAM, IN A SANDBOX (cutbox-rows.mjs): the forced cells as the released guide's own fill.sh prints them over the translation 29a2680581944c28… (all of the seat's roots in one cut). By AI agents, Wed Nov 11 2026. No macro, syntax, notation, axiom, sorry.
-/
import Derived.Test.YtjidefnbancmfaaChecked
import GoSem.Claim
import GoSem.ClaimJoined
import GoSem.ClaimMapViews
import Derived.JoinedTies
import Derived.KernelRfl
namespace Go.Proofs.Ytjidefnbancmfaa
/- THE CELL 'sum', in the pinned program and in every row, IS THE sha256 OF THE DUMP (.gsa) THAT YtjidefnbancmfaaProg.lean LOADS. Nothing in Lean hashes anything: it is a label: what it is worth is what the hold of that sum in a sandbox is worth. -/
noncomputable def Try.pinned : Pinned := { name := "ytjidefnbancmfaa", sum := "29a2680581944c284b04c0b38a5e99664b5a27e5702ef2e13c4580f694453425", checked := Try.checked }
namespace Rows
def none {H : Type} : Left H := { results := [], args := [] }

/-- 'delphilaw0.Names': WHATEVER THE INPUT: true; the input reads as it did. -/
def namesSpec : ChangeSpec := { name := "names", fn := fun _ => fun
  | [] => { results := [.lit (.bool true)], args := [] }
  | _ => none }
def namesRow : OpenClaim := { program := "ytjidefnbancmfaa", sum := "29a2680581944c284b04c0b38a5e99664b5a27e5702ef2e13c4580f694453425", func := "delphi/delphilaw0.Names", spec := "names", apart := false }
def NamesSaid : Prop := namesRow.holds Try.pinned (OpenSpec.ofChange namesSpec)

/-- ITS FALSE NEIGHBOUR: 'it returns false'. Refute it at one input. -/
def namesWrong : ChangeSpec := { name := "names", fn := fun _ => fun
  | [] => { results := [.lit (.bool false)], args := [] }
  | _ => none }
def NamesWrongFalsely : Prop := namesRow.holds Try.pinned (OpenSpec.ofChange namesWrong)

/-- 'delphilaw9.CheckRules': WHATEVER THE INPUT: true; the input reads as it did. -/
def checkRulesSpec : ChangeSpec := { name := "checkRules", fn := fun _ => fun
  | [d1, d2, d3] => { results := [.lit (.bool true)], args := [d1, d2, d3] }
  | _ => none }
def checkRulesRow : OpenClaim := { program := "ytjidefnbancmfaa", sum := "29a2680581944c284b04c0b38a5e99664b5a27e5702ef2e13c4580f694453425", func := "delphi/delphilaw9.CheckRules", spec := "checkRules", unfollowed := true, recurses := true, apart := false }
def CheckRulesSaid : Prop := checkRulesRow.holds Try.pinned (OpenSpec.ofChange checkRulesSpec)

/-- ITS FALSE NEIGHBOUR: 'it returns false'. Refute it at one input. -/
def checkRulesWrong : ChangeSpec := { name := "checkRules", fn := fun _ => fun
  | [d1, d2, d3] => { results := [.lit (.bool false)], args := [d1, d2, d3] }
  | _ => none }
def CheckRulesWrongFalsely : Prop := checkRulesRow.holds Try.pinned (OpenSpec.ofChange checkRulesWrong)

/-- 'delphilaw9.CheckVars': WHATEVER THE INPUT: true; the input reads as it did. -/
def checkVarsSpec : ChangeSpec := { name := "checkVars", fn := fun _ => fun
  | [d1, d2, d3, d4] => { results := [.lit (.bool true)], args := [d1, d2, d3, d4] }
  | _ => none }
def checkVarsRow : OpenClaim := { program := "ytjidefnbancmfaa", sum := "29a2680581944c284b04c0b38a5e99664b5a27e5702ef2e13c4580f694453425", func := "delphi/delphilaw9.CheckVars", spec := "checkVars", unfollowed := true, recurses := true, apart := false }
def CheckVarsSaid : Prop := checkVarsRow.holds Try.pinned (OpenSpec.ofChange checkVarsSpec)

/-- ITS FALSE NEIGHBOUR: 'it returns false'. Refute it at one input. -/
def checkVarsWrong : ChangeSpec := { name := "checkVars", fn := fun _ => fun
  | [d1, d2, d3, d4] => { results := [.lit (.bool false)], args := [d1, d2, d3, d4] }
  | _ => none }
def CheckVarsWrongFalsely : Prop := checkVarsRow.holds Try.pinned (OpenSpec.ofChange checkVarsWrong)

/-- 'delphilaw7.LexScan': WHATEVER THE INPUT: true; the input reads as it did. -/
def lexScanSpec : ChangeSpec := { name := "lexScan", fn := fun _ => fun
  | [d] => { results := [.lit (.bool true)], args := [d] }
  | _ => none }
def lexScanRow : OpenClaim := { program := "ytjidefnbancmfaa", sum := "29a2680581944c284b04c0b38a5e99664b5a27e5702ef2e13c4580f694453425", func := "delphi/delphilaw7.LexScan", spec := "lexScan", inPlace := ["internal/bytealg.IndexByteString"], unfollowed := true, recurses := true, apart := false }
def LexScanSaid : Prop := lexScanRow.holds Try.pinned (OpenSpec.ofChange lexScanSpec)

/-- ITS FALSE NEIGHBOUR: 'it returns false'. Refute it at one input. -/
def lexScanWrong : ChangeSpec := { name := "lexScan", fn := fun _ => fun
  | [d] => { results := [.lit (.bool false)], args := [d] }
  | _ => none }
def LexScanWrongFalsely : Prop := lexScanRow.holds Try.pinned (OpenSpec.ofChange lexScanWrong)

/-- 'delphilaw7.LexLong': WHATEVER THE INPUT: true; the input reads as it did. -/
def lexLongSpec : ChangeSpec := { name := "lexLong", fn := fun _ => fun
  | [d1, d2, d3] => { results := [.lit (.bool true)], args := [d1, d2, d3] }
  | _ => none }
def lexLongRow : OpenClaim := { program := "ytjidefnbancmfaa", sum := "29a2680581944c284b04c0b38a5e99664b5a27e5702ef2e13c4580f694453425", func := "delphi/delphilaw7.LexLong", spec := "lexLong", inPlace := ["internal/bytealg.IndexByteString"], unfollowed := true, recurses := true, apart := false }
def LexLongSaid : Prop := lexLongRow.holds Try.pinned (OpenSpec.ofChange lexLongSpec)

/-- ITS FALSE NEIGHBOUR: 'it returns false'. Refute it at one input. -/
def lexLongWrong : ChangeSpec := { name := "lexLong", fn := fun _ => fun
  | [d1, d2, d3] => { results := [.lit (.bool false)], args := [d1, d2, d3] }
  | _ => none }
def LexLongWrongFalsely : Prop := lexLongRow.holds Try.pinned (OpenSpec.ofChange lexLongWrong)

/-- 'delphilaw7.LexApart': WHATEVER THE INPUT: true; the input reads as it did. -/
def lexApartSpec : ChangeSpec := { name := "lexApart", fn := fun _ => fun
  | [d] => { results := [.lit (.bool true)], args := [d] }
  | _ => none }
def lexApartRow : OpenClaim := { program := "ytjidefnbancmfaa", sum := "29a2680581944c284b04c0b38a5e99664b5a27e5702ef2e13c4580f694453425", func := "delphi/delphilaw7.LexApart", spec := "lexApart", inPlace := ["internal/bytealg.IndexByteString"], unfollowed := true, recurses := true, apart := false }
def LexApartSaid : Prop := lexApartRow.holds Try.pinned (OpenSpec.ofChange lexApartSpec)

/-- ITS FALSE NEIGHBOUR: 'it returns false'. Refute it at one input. -/
def lexApartWrong : ChangeSpec := { name := "lexApart", fn := fun _ => fun
  | [d] => { results := [.lit (.bool false)], args := [d] }
  | _ => none }
def LexApartWrongFalsely : Prop := lexApartRow.holds Try.pinned (OpenSpec.ofChange lexApartWrong)

/-- 'delphilaw12.PlanAll': WHATEVER THE INPUT: true; the input reads as it did. -/
def planAllSpec : ChangeSpec := { name := "planAll", fn := fun _ => fun
  | [d1, d2] => { results := [.lit (.bool true)], args := [d1, d2] }
  | _ => none }
def planAllRow : OpenClaim := { program := "ytjidefnbancmfaa", sum := "29a2680581944c284b04c0b38a5e99664b5a27e5702ef2e13c4580f694453425", func := "delphi/delphilaw12.PlanAll", spec := "planAll", unfollowed := true, recurses := true, apart := false }
def PlanAllSaid : Prop := planAllRow.holds Try.pinned (OpenSpec.ofChange planAllSpec)

/-- ITS FALSE NEIGHBOUR: 'it returns false'. Refute it at one input. -/
def planAllWrong : ChangeSpec := { name := "planAll", fn := fun _ => fun
  | [d1, d2] => { results := [.lit (.bool false)], args := [d1, d2] }
  | _ => none }
def PlanAllWrongFalsely : Prop := planAllRow.holds Try.pinned (OpenSpec.ofChange planAllWrong)

/-- 'delphilaw11.RelationAll': WHATEVER THE INPUT: true; the input reads as it did. -/
def relationAllSpec : ChangeSpec := { name := "relationAll", fn := fun _ => fun
  | [d1, d2] => { results := [.lit (.bool true)], args := [d1, d2] }
  | _ => none }
def relationAllRow : OpenClaim := { program := "ytjidefnbancmfaa", sum := "29a2680581944c284b04c0b38a5e99664b5a27e5702ef2e13c4580f694453425", func := "delphi/delphilaw11.RelationAll", spec := "relationAll", inPlace := ["slices.overlaps[delphi/relation.Row]"], unfollowed := true, recurses := true, apart := false }
def RelationAllSaid : Prop := relationAllRow.holds Try.pinned (OpenSpec.ofChange relationAllSpec)

/-- ITS FALSE NEIGHBOUR: 'it returns false'. Refute it at one input. -/
def relationAllWrong : ChangeSpec := { name := "relationAll", fn := fun _ => fun
  | [d1, d2] => { results := [.lit (.bool false)], args := [d1, d2] }
  | _ => none }
def RelationAllWrongFalsely : Prop := relationAllRow.holds Try.pinned (OpenSpec.ofChange relationAllWrong)

/-- 'delphilaw11.RelationNone': WHATEVER THE INPUT: true; the input reads as it did. -/
def relationNoneSpec : ChangeSpec := { name := "relationNone", fn := fun _ => fun
  | [] => { results := [.lit (.bool true)], args := [] }
  | _ => none }
def relationNoneRow : OpenClaim := { program := "ytjidefnbancmfaa", sum := "29a2680581944c284b04c0b38a5e99664b5a27e5702ef2e13c4580f694453425", func := "delphi/delphilaw11.RelationNone", spec := "relationNone", inPlace := ["slices.overlaps[delphi/relation.Row]"], unfollowed := true, recurses := true, apart := false }
def RelationNoneSaid : Prop := relationNoneRow.holds Try.pinned (OpenSpec.ofChange relationNoneSpec)

/-- ITS FALSE NEIGHBOUR: 'it returns false'. Refute it at one input. -/
def relationNoneWrong : ChangeSpec := { name := "relationNone", fn := fun _ => fun
  | [] => { results := [.lit (.bool false)], args := [] }
  | _ => none }
def RelationNoneWrongFalsely : Prop := relationNoneRow.holds Try.pinned (OpenSpec.ofChange relationNoneWrong)

/-- 'delphilaw11.RelationMany': WHATEVER THE INPUT: true; the input reads as it did. -/
def relationManySpec : ChangeSpec := { name := "relationMany", fn := fun _ => fun
  | [d1, d2] => { results := [.lit (.bool true)], args := [d1, d2] }
  | _ => none }
def relationManyRow : OpenClaim := { program := "ytjidefnbancmfaa", sum := "29a2680581944c284b04c0b38a5e99664b5a27e5702ef2e13c4580f694453425", func := "delphi/delphilaw11.RelationMany", spec := "relationMany", inPlace := ["slices.overlaps[delphi/relation.Row]"], unfollowed := true, recurses := true, apart := false }
def RelationManySaid : Prop := relationManyRow.holds Try.pinned (OpenSpec.ofChange relationManySpec)

/-- ITS FALSE NEIGHBOUR: 'it returns false'. Refute it at one input. -/
def relationManyWrong : ChangeSpec := { name := "relationMany", fn := fun _ => fun
  | [d1, d2] => { results := [.lit (.bool false)], args := [d1, d2] }
  | _ => none }
def RelationManyWrongFalsely : Prop := relationManyRow.holds Try.pinned (OpenSpec.ofChange relationManyWrong)

/- THE SECOND FORM. 'bulk': how many values and letters a reading holds, each counted each time it is reached (what is shared counts as often as it is met; a slice's spare places count too). A statement '..UptoSaid' is the law's where the arguments, and the package variables that the reading takes, are together of bulk at most 1048576: NARROWER than '..Said'. Prove '..Said' where nothing that the law and all that it calls make is longer than what came in: it says more and counts as full. Else prove '..UptoSaid'. A law counts once. -/
mutual
def uptoBulk {H : Type} : DataW H → Nat
  | .lit (.string bytes) => bytes.length + 1
  | .lit _ => 1
  | .nil => 1
  | .ptr d => uptoBulk d + 1
  | .slice elems spare => uptoBulkAll elems + uptoBulkAll spare + 1
  | .agg parts => uptoBulkAll parts + 1
  | .iface _ d => uptoBulk d + 1
  | .map entries => uptoBulkEntries entries + 1
  | .held _ => 1
def uptoBulkAll {H : Type} : List (DataW H) → Nat
  | [] => 0
  | d :: r => uptoBulk d + uptoBulkAll r
def uptoBulkEntries {H : Type} : List (Lit × DataW H) → Nat
  | [] => 0
  | x :: r => uptoBulkEntry x + uptoBulkEntries r
def uptoBulkEntry {H : Type} : Lit × DataW H → Nat
  | (.string bytes, d) => bytes.length + uptoBulk d + 1
  | (_, d) => uptoBulk d + 1
 end
def uptoSmall : (H : Type) → List (DataW H) → Bool := fun _ ds => decide (uptoBulkAll ds ≤ 1048576)
def OpenSpec.upto (s : _root_.Go.ChangeSpec) : _root_.Go.OpenSpec := { _root_.Go.OpenSpec.ofChange s with cond := some uptoSmall }

/-- 'delphilaw0.Names', WHERE WHAT IT READS IS OF BULK AT MOST 1048576: true; the input reads as it did. -/
def namesUptoRow : OpenClaim := { program := "ytjidefnbancmfaa", sum := "29a2680581944c284b04c0b38a5e99664b5a27e5702ef2e13c4580f694453425", func := "delphi/delphilaw0.Names", spec := "names", apart := false, narrowed := true }
def NamesUptoSaid : Prop := namesUptoRow.holds Try.pinned (OpenSpec.upto namesSpec)

/-- 'delphilaw9.CheckRules', WHERE WHAT IT READS IS OF BULK AT MOST 1048576: true; the input reads as it did. -/
def checkRulesUptoRow : OpenClaim := { program := "ytjidefnbancmfaa", sum := "29a2680581944c284b04c0b38a5e99664b5a27e5702ef2e13c4580f694453425", func := "delphi/delphilaw9.CheckRules", spec := "checkRules", unfollowed := true, recurses := true, apart := false, narrowed := true }
def CheckRulesUptoSaid : Prop := checkRulesUptoRow.holds Try.pinned (OpenSpec.upto checkRulesSpec)

/-- 'delphilaw9.CheckVars', WHERE WHAT IT READS IS OF BULK AT MOST 1048576: true; the input reads as it did. -/
def checkVarsUptoRow : OpenClaim := { program := "ytjidefnbancmfaa", sum := "29a2680581944c284b04c0b38a5e99664b5a27e5702ef2e13c4580f694453425", func := "delphi/delphilaw9.CheckVars", spec := "checkVars", unfollowed := true, recurses := true, apart := false, narrowed := true }
def CheckVarsUptoSaid : Prop := checkVarsUptoRow.holds Try.pinned (OpenSpec.upto checkVarsSpec)

/-- 'delphilaw7.LexScan', WHERE WHAT IT READS IS OF BULK AT MOST 1048576: true; the input reads as it did. -/
def lexScanUptoRow : OpenClaim := { program := "ytjidefnbancmfaa", sum := "29a2680581944c284b04c0b38a5e99664b5a27e5702ef2e13c4580f694453425", func := "delphi/delphilaw7.LexScan", spec := "lexScan", inPlace := ["internal/bytealg.IndexByteString"], unfollowed := true, recurses := true, apart := false, narrowed := true }
def LexScanUptoSaid : Prop := lexScanUptoRow.holds Try.pinned (OpenSpec.upto lexScanSpec)

/-- 'delphilaw7.LexLong', WHERE WHAT IT READS IS OF BULK AT MOST 1048576: true; the input reads as it did. -/
def lexLongUptoRow : OpenClaim := { program := "ytjidefnbancmfaa", sum := "29a2680581944c284b04c0b38a5e99664b5a27e5702ef2e13c4580f694453425", func := "delphi/delphilaw7.LexLong", spec := "lexLong", inPlace := ["internal/bytealg.IndexByteString"], unfollowed := true, recurses := true, apart := false, narrowed := true }
def LexLongUptoSaid : Prop := lexLongUptoRow.holds Try.pinned (OpenSpec.upto lexLongSpec)

/-- 'delphilaw7.LexApart', WHERE WHAT IT READS IS OF BULK AT MOST 1048576: true; the input reads as it did. -/
def lexApartUptoRow : OpenClaim := { program := "ytjidefnbancmfaa", sum := "29a2680581944c284b04c0b38a5e99664b5a27e5702ef2e13c4580f694453425", func := "delphi/delphilaw7.LexApart", spec := "lexApart", inPlace := ["internal/bytealg.IndexByteString"], unfollowed := true, recurses := true, apart := false, narrowed := true }
def LexApartUptoSaid : Prop := lexApartUptoRow.holds Try.pinned (OpenSpec.upto lexApartSpec)

/-- 'delphilaw12.PlanAll', WHERE WHAT IT READS IS OF BULK AT MOST 1048576: true; the input reads as it did. -/
def planAllUptoRow : OpenClaim := { program := "ytjidefnbancmfaa", sum := "29a2680581944c284b04c0b38a5e99664b5a27e5702ef2e13c4580f694453425", func := "delphi/delphilaw12.PlanAll", spec := "planAll", unfollowed := true, recurses := true, apart := false, narrowed := true }
def PlanAllUptoSaid : Prop := planAllUptoRow.holds Try.pinned (OpenSpec.upto planAllSpec)

/-- 'delphilaw11.RelationAll', WHERE WHAT IT READS IS OF BULK AT MOST 1048576: true; the input reads as it did. -/
def relationAllUptoRow : OpenClaim := { program := "ytjidefnbancmfaa", sum := "29a2680581944c284b04c0b38a5e99664b5a27e5702ef2e13c4580f694453425", func := "delphi/delphilaw11.RelationAll", spec := "relationAll", inPlace := ["slices.overlaps[delphi/relation.Row]"], unfollowed := true, recurses := true, apart := false, narrowed := true }
def RelationAllUptoSaid : Prop := relationAllUptoRow.holds Try.pinned (OpenSpec.upto relationAllSpec)

/-- 'delphilaw11.RelationNone', WHERE WHAT IT READS IS OF BULK AT MOST 1048576: true; the input reads as it did. -/
def relationNoneUptoRow : OpenClaim := { program := "ytjidefnbancmfaa", sum := "29a2680581944c284b04c0b38a5e99664b5a27e5702ef2e13c4580f694453425", func := "delphi/delphilaw11.RelationNone", spec := "relationNone", inPlace := ["slices.overlaps[delphi/relation.Row]"], unfollowed := true, recurses := true, apart := false, narrowed := true }
def RelationNoneUptoSaid : Prop := relationNoneUptoRow.holds Try.pinned (OpenSpec.upto relationNoneSpec)

/-- 'delphilaw11.RelationMany', WHERE WHAT IT READS IS OF BULK AT MOST 1048576: true; the input reads as it did. -/
def relationManyUptoRow : OpenClaim := { program := "ytjidefnbancmfaa", sum := "29a2680581944c284b04c0b38a5e99664b5a27e5702ef2e13c4580f694453425", func := "delphi/delphilaw11.RelationMany", spec := "relationMany", inPlace := ["slices.overlaps[delphi/relation.Row]"], unfollowed := true, recurses := true, apart := false, narrowed := true }
def RelationManyUptoSaid : Prop := relationManyUptoRow.holds Try.pinned (OpenSpec.upto relationManySpec)

end Rows
end Go.Proofs.Ytjidefnbancmfaa
