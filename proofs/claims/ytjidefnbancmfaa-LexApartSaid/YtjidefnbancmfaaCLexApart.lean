/- LexApart: for every text the law 'LexApart' returns true, and what was there is as it was. No condition. -/
import Derived.Test.YtjidefnbancmfaaPLex6
import Derived.Test.YtjidefnbancmfaaB23
set_option linter.unusedVariables false
namespace Go.Proofs.Ytjidefnbancmfaa.lexApart
open Go.AE Go.ChangeShapes Go.WideShapes Go.ChangeAt Go.RowKit
open Go.ChangeMaps (open_string)
theorem own : ownKnob Try.prog.godebug = none := by kernel_rfl
theorem tab_ok : TabOK Try.prog (tabW Try.prog [23]) := tabW_ok fun f hf aw => by
  simp only [List.mem_cons, List.not_mem_nil, or_false] at hf
  subst hf; exact good23 aw
theorem begun : Begun (tabW Try.prog [23]) 23 := fun aw => .prim (.inr ⟨by simp, rfl, rfl, rfl⟩)
theorem bytes (s : ByteArray) : ∀ x ∈ strL s, x < 256 := by
  intro x hx
  simp only [strL, List.mem_map] at hx
  obtain ⟨b, _, rfl⟩ := hx
  exact b.toNat_lt
theorem walk (s : ByteArray) (w : World) : Calls Try.prog 8 #[.string s] w fun e w' => e = .returned (.bool true) ∧ Below w.heap.size w w' := by
  obtain ⟨v, aw', h1, rfl, h2⟩ := lexApart_law (codesW [23]) (extW [23]) begun (s := strL s) (aw := AW.empty) (bytes s)
  refine ((callR_ok tab_ok h1).2 w _ _ #[.string s] (R.empty w) ⟨_, _, rfl, ⟨s, rfl, rfl⟩, rfl⟩).mono ?_
  rintro e w' ⟨v', m', rfl, rfl, _, hg⟩
  exact ⟨rfl, hg.below fun _ => rfl⟩
set_option maxRecDepth 100000 in
theorem lifted (os : Os) (started : os.Started) (H : Type) (enc : TypeId × Value → H) :
    ReturnsInHanded {} Try.checked os 8 .any (Rows.lexApartSpec.pre6 enc Try.prog Try.f8 Rows.lexApartRow.domain false) (Rows.lexApartSpec.post enc Try.prog Try.f8 false true false false) := by
  refine returnsInHanded_of_change (C := Try.checked) own started (by kernel_rfl) Try.func8
    (ChangeSpec.witness6 (enc := enc) (C := Try.checked) false ⟨#[], #[.string ⟨#[97]⟩], []⟩ 8 (by kernel_rfl) (by kernel_rfl) (by kernel_rfl) (by kernel_rfl)) ?_
  intro W base args ds gs before hval0 hW hcnd _
  have hval : ∀ (j : Nat) t v, Try.f8.params[j]? = some t → args[j]? = some v → Value.okWide Try.prog W .any base t v := hval0
  have hW' := hW
  obtain ⟨p, q, hA0, hV, rfl, hfz, hnd⟩ := hW
  have hA : DataW.TrodAll enc Try.prog W 0 (fun _ => true) true Try.f8.params.toList args.toList ds p := hA0
  rw [Try.params8] at hA hval
  obtain ⟨v0, d0, rfl, rfl, h0⟩ := trodAll_one hA
  obtain ⟨rfl, rfl⟩ := trodVars_none hV
  obtain ⟨s, rfl, rfl, rfl, hs⟩ := open_string Try.underlying9 (hval 0 9 v0 rfl rfl) h0
  refine (walk s W).mono fun e W' ⟨he, hg⟩ => ?_
  subst he
  exact ⟨_, rfl, law_post (tb := 4) hW' (by kernel_rfl) (by rw [Try.params8]; decide +kernel) hg rfl rfl Try.underlying4 rfl rfl rfl⟩
theorem over : Rows.lexApartRow.holds Try.pinned (OpenSpec.ofChange Rows.lexApartSpec) :=
  OpenClaim.holds_of_wide 8 Try.f8 rfl rfl rfl rfl rfl rfl rfl ⟨rfl, rfl, rfl, rfl, rfl⟩ rfl rfl rfl rfl rfl (by kernel_rfl) Try.func8 (by kernel_rfl)
    (of_decide_eq_true (by kernel_rfl)) (by unfold Func.isWrapper; first | (rw [if_pos (by decide +kernel)]; kernel_rfl) | (rw [if_neg (by decide +kernel)]; exact ⟨rfl, rfl⟩))
    (fun os started H enc _ => lifted os started H enc)
/-- THE STATEMENT -/
theorem proved : Rows.LexApartSaid :=
  over
#print axioms proved
end Go.Proofs.Ytjidefnbancmfaa.lexApart
