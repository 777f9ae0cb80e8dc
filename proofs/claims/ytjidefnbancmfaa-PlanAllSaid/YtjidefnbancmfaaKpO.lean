/- A part of the proof: CPlanAll. -/
import Derived.Test.YtjidefnbancmfaaKpN
/- PlanAll: for every text and every number the law 'delphilaw12.PlanAll' returns true, and what was there is as it was. No condition. -/
set_option linter.unusedVariables false
namespace Go.Proofs.Ytjidefnbancmfaa.planAll
open Go.AE Go.ChangeShapes Go.WideShapes Go.ChangeAt Go.RowKit
open Go.ChangeMaps (open_string)
theorem own : ownKnob Try.prog.godebug = none := by kernel_rfl
theorem tab_ok : TabOK Try.prog (tabW Try.prog [27]) := tabW_ok fun f hf aw => by
  simp only [List.mem_cons, List.not_mem_nil, or_false] at hf
  subst hf; exact good27 aw
theorem begun : Begins (tabW Try.prog [27]) 27 := fun aw => .prim (.inr ⟨by simp, rfl, rfl, rfl⟩)
theorem bytes (s : ByteArray) : ∀ x ∈ strL s, x < 256 := by
  intro x hx
  simp only [strL, List.mem_map] at hx
  obtain ⟨b, _, rfl⟩ := hx
  exact b.toNat_lt
theorem walk (s : ByteArray) (n : Int) (w : World) : Calls Try.prog 9 #[.string s, .int .i64 n] w fun e w' => e = .returned (.bool true) ∧ Below w.heap.size w w' := by
  obtain ⟨v, aw', h1, rfl, h2⟩ := planAll_law (codesW [27]) begun (s := strL s) (first := n) (aw := AW.empty) (bytes s)
  refine ((callR_ok tab_ok h1).2 w _ _ #[.string s, .int .i64 n] (R.empty w) ⟨_, _, rfl, ⟨s, rfl, rfl⟩, _, _, rfl, rfl, rfl⟩).mono ?_
  rintro e w' ⟨v', m', rfl, rfl, _, hg⟩
  exact ⟨rfl, hg.below fun _ => rfl⟩
set_option maxRecDepth 100000 in
theorem lifted (os : Os) (started : os.Started) (H : Type) (enc : TypeId × Value → H) :
    ReturnsInHanded {} Try.checked os 9 .any (Rows.planAllSpec.pre6 enc Try.prog Try.f9 Rows.planAllRow.domain false) (Rows.planAllSpec.post enc Try.prog Try.f9 false true false false) := by
  refine returnsInHanded_of_change (C := Try.checked) own started (by kernel_rfl) Try.func9
    (ChangeSpec.witness6 (enc := enc) (C := Try.checked) false ⟨#[], #[.string ⟨#[97]⟩, .int .i64 0], []⟩ 8 (by kernel_rfl) (by kernel_rfl) (by kernel_rfl) (by kernel_rfl)) ?_
  intro W base args ds gs before hval0 hW hcnd _
  have hval : ∀ (j : Nat) t v, Try.f9.params[j]? = some t → args[j]? = some v → Value.okWide Try.prog W .any base t v := hval0
  have hW' := hW
  obtain ⟨p, q, hA0, hV, rfl, hfz, hnd⟩ := hW
  have hA : DataW.TrodAll enc Try.prog W 0 (fun _ => true) true Try.f9.params.toList args.toList ds p := hA0
  rw [Try.params9] at hA hval
  obtain ⟨v0, v1, d0, d1, p0, p1, rfl, rfl, rfl, h0, h1⟩ := trodAll_two hA
  obtain ⟨rfl, rfl⟩ := trodVars_none hV
  obtain ⟨s, rfl, rfl, rfl, hs⟩ := open_string Try.underlying9 (hval 0 9 v0 rfl rfl) h0
  obtain ⟨n1, rfl, rfl, rfl, wf1⟩ := open_int Try.underlying3 (hval 1 3 v1 rfl rfl) h1
  refine (walk s n1 W).mono fun e W' ⟨he, hg⟩ => ?_
  subst he
  exact ⟨_, rfl, law_post (tb := 4) hW' (by kernel_rfl) (by rw [Try.params9]; decide +kernel) hg rfl rfl Try.underlying4 rfl rfl rfl⟩
theorem over : Rows.planAllRow.holds Try.pinned (OpenSpec.ofChange Rows.planAllSpec) :=
  OpenClaim.holds_of_wide 9 Try.f9 rfl rfl rfl rfl rfl rfl rfl ⟨rfl, rfl, rfl, rfl, rfl⟩ rfl rfl rfl rfl rfl (by kernel_rfl) Try.func9 (by kernel_rfl)
    (of_decide_eq_true (by kernel_rfl)) (by unfold Func.isWrapper; first | (rw [if_pos (by decide +kernel)]; kernel_rfl) | (rw [if_neg (by decide +kernel)]; exact ⟨rfl, rfl⟩))
    (fun os started H enc _ => lifted os started H enc)
/-- THE STATEMENT -/
theorem proved : Rows.PlanAllSaid :=
  over
#print axioms proved
end Go.Proofs.Ytjidefnbancmfaa.planAll
