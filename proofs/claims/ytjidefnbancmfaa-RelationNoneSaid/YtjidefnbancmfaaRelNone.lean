/- RelationNone: the law 'delphilaw11.RelationNone' returns true, and leaves what was there as it was. No condition.
   The code is carried out by an evaluator of its own (parts Ae1 to Ae30), whose steps are shown to be the model's. -/
import Derived.Test.YtjidefnbancmfaaRows
import Derived.WalkKit
import Derived.ProofKit
import Derived.OpenShut
import Derived.Test.YtjidefnbancmfaaAe30
import Derived.Test.YtjidefnbancmfaaIns
namespace Go.Proofs.Ytjidefnbancmfaa.relationNone
open Go.ChangeShapes Go.WideShapes Go.ChangeAt Go.RowKit
set_option linter.unusedVariables false

theorem own : ownKnob Try.prog.godebug = none := by kernel_rfl

def tabOf (P : Program) : AE.XTab where
  code := (AE.XTab.of P).code
  prim f args aw := match f with
    | 54 => AE.insPrim 24 args aw
    | _ => none
  ext _ _ _ := none
theorem tab_ok : AE.TabOK Try.prog (tabOf Try.prog).tab where
  mixed := by kernel_rfl
  code := (AE.XTab.of_ok (P := Try.prog) (by kernel_rfl)).code
  prim f args aw v aw' h := by
    simp only [AE.XTab.tab, tabOf] at h
    split at h
    · refine ⟨⟨_, Try.func54, by kernel_rfl, by decide +kernel⟩, fun w m base args' hR hargs => ?_⟩
      exact AE.insPrim_ok (te := 78) (zero := Value.slice none 0 0) (fun b off n c i vb voff m vc cs vs w => ins_shift b off n c i vb voff m vc cs vs w) (fun b off n c i vb voff m vc cs vs w => ins_grow b off n c i vb voff m vc cs vs w) rfl h w m base args' hR hargs
    · cases h
  ext f args aw v h := by cases h
theorem run : AE.isTrue (AE.xCall (tabOf Try.prog) (AE.xRun (tabOf Try.prog) 100000) 11 [] AE.AW.empty) = true := by kernel_rfl
theorem walk (w : World) :
    Calls Try.prog 11 #[] w fun e w' => e = .returned (.bool true) ∧ Below w.heap.size w w' :=
  AE.closed_ok tab_ok run w

set_option maxRecDepth 100000 in
theorem lifted (os : Os) (started : os.Started) (H : Type) (enc : TypeId × Value → H) :
    ReturnsInHanded {} Try.checked os 11 .any (Rows.relationNoneSpec.pre6 enc Try.prog Try.f11 Rows.relationNoneRow.domain false) (Rows.relationNoneSpec.post enc Try.prog Try.f11 false true false false) := by
  refine returnsInHanded_of_change (C := Try.checked) own started (by kernel_rfl) Try.func11
    (ChangeSpec.witness6 (enc := enc) (C := Try.checked) false ⟨#[], #[], []⟩ 8 (by kernel_rfl) (by kernel_rfl) (by kernel_rfl) (by kernel_rfl)) ?_
  intro W base args ds gs before hval0 hW hcnd _
  have hval : ∀ (j : Nat) t v, Try.f11.params[j]? = some t → args[j]? = some v → Value.okWide Try.prog W .any base t v := hval0
  have hW' := hW
  obtain ⟨p, q, hA0, hV, rfl, hfz, hnd⟩ := hW
  have hA : DataW.TrodAll enc Try.prog W 0 (fun _ => true) true Try.f11.params.toList args.toList ds p := hA0
  rw [Try.params11] at hA hval
  obtain ⟨rfl, rfl, rfl⟩ := trodAll_none hA
  obtain ⟨rfl, rfl⟩ := trodVars_none hV
  clear hA0 hval0
  simp only [List.append_nil] at hW'
  refine (walk  W).mono fun e W' ⟨he, hg⟩ => ?_
  subst he
  exact ⟨_, rfl, [], [], [], [], [], [], hW', trodAll_cons_mk (shut_bool Try.underlying4 _) trodAll_mk0, rfl, rfl, hg.frame _, fun h => by cases h⟩

theorem over : Rows.relationNoneRow.holds Try.pinned (OpenSpec.ofChange Rows.relationNoneSpec) :=
  OpenClaim.holds_of_wide 11 Try.f11 rfl rfl rfl rfl rfl rfl rfl ⟨rfl, rfl, rfl, rfl, rfl⟩ rfl rfl rfl rfl rfl (by kernel_rfl) Try.func11 (by kernel_rfl)
    (of_decide_eq_true (by kernel_rfl)) (by unfold Func.isWrapper; first | (rw [if_pos (by decide +kernel)]; kernel_rfl) | (rw [if_neg (by decide +kernel)]; exact ⟨rfl, rfl⟩))
    (fun os started H enc _ => lifted os started H enc)

/-- THE STATEMENT -/
theorem proved : Rows.RelationNoneSaid :=
  over
#print axioms proved
end Go.Proofs.Ytjidefnbancmfaa.relationNone
