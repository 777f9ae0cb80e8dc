/- RelationMany: for both numbers the law 'delphilaw11.RelationMany' returns true, and what was there is as it was. No condition. -/
import Derived.Test.YtjidefnbancmfaaPRel9
import Derived.Test.YtjidefnbancmfaaB30
set_option linter.unusedVariables false
namespace Go.Proofs.Ytjidefnbancmfaa.relationMany
open Go.AE Go.ChangeShapes Go.WideShapes Go.ChangeAt Go.RowKit
open Go.ChangeMaps (open_string)
theorem own : ownKnob Try.prog.godebug = none := by kernel_rfl
theorem tab_ok : TabOK Try.prog (tabW Try.prog [30]) := tabW_ok fun f hf aw => by
  simp only [List.mem_cons, List.not_mem_nil, or_false] at hf
  subst hf; exact good30 aw
theorem begun : Begun (tabW Try.prog [30]) 30 := fun aw => .prim (.inr ⟨by simp, rfl, rfl, rfl⟩)
theorem walk (n k : Int) (w : World) : Calls Try.prog 12 #[.int .i64 n, .int .i64 k] w fun e w' => e = .returned (.bool true) ∧ Below w.heap.size w w' := by
  obtain ⟨v, aw', h1, rfl, h2⟩ := relMany_law (codesW [30]) (fun args aw v aw' h => .inl h) begun (n := n) (step := k) (aw := AW.empty)
  refine ((callR_ok tab_ok h1).2 w _ _ #[.int .i64 n, .int .i64 k] (R.empty w) ⟨_, _, rfl, rfl, _, _, rfl, rfl, rfl⟩).mono ?_
  rintro e w' ⟨v', m', rfl, rfl, _, hg⟩
  exact ⟨rfl, hg.below fun _ => rfl⟩
set_option maxRecDepth 100000 in
theorem lifted (os : Os) (started : os.Started) (H : Type) (enc : TypeId × Value → H) :
    ReturnsInHanded {} Try.checked os 12 .any (Rows.relationManySpec.pre6 enc Try.prog Try.f12 Rows.relationManyRow.domain false) (Rows.relationManySpec.post enc Try.prog Try.f12 false true false false) := by
  refine returnsInHanded_of_change (C := Try.checked) own started (by kernel_rfl) Try.func12
    (ChangeSpec.witness6 (enc := enc) (C := Try.checked) false ⟨#[], #[.int .i64 0, .int .i64 0], []⟩ 8 (by kernel_rfl) (by kernel_rfl) (by kernel_rfl) (by kernel_rfl)) ?_
  intro W base args ds gs before hval0 hW hcnd _
  have hval : ∀ (j : Nat) t v, Try.f12.params[j]? = some t → args[j]? = some v → Value.okWide Try.prog W .any base t v := hval0
  have hW' := hW
  obtain ⟨p, q, hA0, hV, rfl, hfz, hnd⟩ := hW
  have hA : DataW.TrodAll enc Try.prog W 0 (fun _ => true) true Try.f12.params.toList args.toList ds p := hA0
  rw [Try.params12] at hA hval
  obtain ⟨v0, v1, d0, d1, p0, p1, rfl, rfl, rfl, h0, h1⟩ := trodAll_two hA
  obtain ⟨rfl, rfl⟩ := trodVars_none hV
  obtain ⟨n0, rfl, rfl, rfl, wf0⟩ := open_int Try.underlying3 (hval 0 3 v0 rfl rfl) h0
  obtain ⟨n1, rfl, rfl, rfl, wf1⟩ := open_int Try.underlying3 (hval 1 3 v1 rfl rfl) h1
  refine (walk n0 n1 W).mono fun e W' ⟨he, hg⟩ => ?_
  subst he
  exact ⟨_, rfl, law_post (tb := 4) hW' (by kernel_rfl) (by rw [Try.params12]; decide +kernel) hg rfl rfl Try.underlying4 rfl rfl rfl⟩
theorem over : Rows.relationManyRow.holds Try.pinned (OpenSpec.ofChange Rows.relationManySpec) :=
  OpenClaim.holds_of_wide 12 Try.f12 rfl rfl rfl rfl rfl rfl rfl ⟨rfl, rfl, rfl, rfl, rfl⟩ rfl rfl rfl rfl rfl (by kernel_rfl) Try.func12 (by kernel_rfl)
    (of_decide_eq_true (by kernel_rfl)) (by unfold Func.isWrapper; first | (rw [if_pos (by decide +kernel)]; kernel_rfl) | (rw [if_neg (by decide +kernel)]; exact ⟨rfl, rfl⟩))
    (fun os started H enc _ => lifted os started H enc)
/-- THE STATEMENT -/
theorem proved : Rows.RelationManySaid :=
  over
#print axioms proved
end Go.Proofs.Ytjidefnbancmfaa.relationMany
