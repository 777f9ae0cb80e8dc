/- A part of the proof: CCheckRules. -/
import Derived.Test.YtjidefnbancmfaaKrO
import Derived.HandedShaped
/- CheckRules: for every text, all facts and every name the law 'delphilaw9.CheckRules' returns true, and what was there is as it was. No condition. -/
set_option linter.unusedVariables false
namespace Go.Proofs.Ytjidefnbancmfaa.checkRules
open Go.AE Go.ChangeShapes Go.WideShapes Go.ChangeAt Go.RowKit
open Go.ChangeMaps (open_string)
theorem own : ownKnob Try.prog.godebug = none := by kernel_rfl
theorem tab_ok : TabOK Try.prog (tabW Try.prog [13]) := tabW_ok fun f hf aw => by
  simp only [List.mem_cons, List.not_mem_nil, or_false] at hf
  subst hf; exact good13 aw
theorem begun : Begins (tabW Try.prog [13]) 13 := fun aw => .prim (.inr ⟨by simp, rfl, rfl, rfl⟩)
theorem bytes (s : ByteArray) : ∀ x ∈ strL s, x < 256 := by
  intro x hx
  simp only [strL, List.mem_map] at hx
  obtain ⟨b, _, rfl⟩ := hx
  exact b.toNat_lt
theorem dum (W : World) (h : W.ShapedOpen Try.prog) : ∃ cur ty lo hi, W.heap[0]? = some (.cells cur ty (lo, hi)) := by
  have h0 : ∃ zt, (((begin Try.prog (fun _ _ => 0) default).world).heap[0]?).bind Obj.row? = some zt := Option.isSome_iff_exists.1 (by kernel_rfl)
  obtain ⟨⟨z, ty⟩, hz⟩ := h0
  obtain ⟨cs, h1, _⟩ := h.1 0 z ty (by decide +kernel) hz
  exact ⟨cs, ty, _, _, h1⟩
set_option maxRecDepth 100000 in
theorem opn {H : Type} {enc : TypeId × Value → H} {W : World} (hd : ∃ cur ty lo hi, W.heap[0]? = some (.cells cur ty (lo, hi))) : Opens enc Try.prog W 24 (List (List Nat × List (Int × List Nat × Int × Unit) × Unit)) (SliceR FactR) :=
  opens_slice Try.underlying24 (by kernel_rfl) (by decide +kernel) (opens_struct Try.underlying94 rfl (by kernel_rfl) (opensF_cons (k := 1) (opens_str Try.underlying9 (by kernel_rfl)) (by kernel_rfl) rfl
    (opensF_cons (k := 1) (opens_slice Try.underlying28 (by kernel_rfl) (by decide +kernel)
      (opens_struct Try.underlying46 rfl (by kernel_rfl) (opensF_cons (k := 1) (opens_int Try.underlying3 (by kernel_rfl)) (by kernel_rfl) rfl (opensF_cons (k := 1) (opens_str Try.underlying9 (by kernel_rfl)) (by kernel_rfl) rfl (opensF_cons (k := 1) (opens_int Try.underlying2 (by kernel_rfl)) (by kernel_rfl) rfl opensF_nil)))) hd) (by kernel_rfl) rfl opensF_nil))) hd
theorem walk {H : Type} {enc : TypeId × Value → H} (s nm : ByteArray) (v : Value) (W : World) (hd : ∃ cur ty lo hi, W.heap[0]? = some (.cells cur ty (lo, hi))) (hc : v.cells.toList = [v]) {d : DataW H} {p : List MemPlace} (ht : DataW.Trod enc Try.prog W 0 (fun _ => true) true 24 v d p) :
    Calls Try.prog 4 #[.string s, v, .string nm] W fun e W' => e = .returned (.bool true) ∧ Below W.heap.size W W' := by
  obtain ⟨aw0, m0, fs, x, hR, hA, _, _, hv, hrel⟩ := opens_arg (opn hd) hc ht (R.empty W) (fun b e x h => by cases h)
  obtain ⟨v', aw', h1, rfl, h2⟩ := checkRules_law (codesW [13]) begun (s := strL s) (nm := strL nm) (fv := x) (facts := fs) (aw := aw0) (bytes s) hrel
  refine ((callR_ok tab_ok h1).2 W _ _ #[.string s, v, .string nm] hR ⟨_, _, rfl, ⟨s, rfl, rfl⟩, _, _, rfl, hv, _, _, rfl, ⟨nm, rfl, rfl⟩, rfl⟩).mono ?_
  rintro e W' ⟨v', m', rfl, rfl, _, hg⟩
  exact ⟨rfl, hg.belowRo hA⟩
set_option maxRecDepth 100000 in
theorem lifted (os : Os) (started : os.Started) (H : Type) (enc : TypeId × Value → H) :
    ReturnsInHanded {} Try.checked os 4 .any (Rows.checkRulesSpec.pre6 enc Try.prog Try.f4 Rows.checkRulesRow.domain false) (Rows.checkRulesSpec.post enc Try.prog Try.f4 false true false false) := by
  refine returnsInHanded_of_change_shaped (C := Try.checked) own started (by kernel_rfl) Try.func4
    (ChangeSpec.witness6 (enc := enc) (C := Try.checked) false ⟨#[], #[.string ⟨#[97]⟩, .slice none 0 0, .string ⟨#[97]⟩], []⟩ 8 (by kernel_rfl) (by kernel_rfl) (by kernel_rfl) (by kernel_rfl)) ?_
  intro W base args ds gs before hval0 hW hcnd _ hsh _
  have hval : ∀ (j : Nat) t v, Try.f4.params[j]? = some t → args[j]? = some v → Value.okWide Try.prog W .any base t v := hval0
  have hW' := hW
  obtain ⟨p, q, hA0, hV, rfl, hfz, hnd⟩ := hW
  have hA : DataW.TrodAll enc Try.prog W 0 (fun _ => true) true Try.f4.params.toList args.toList ds p := hA0
  rw [Try.params4] at hA hval
  obtain ⟨v0, v1, v2, d0, d1, d2, p0, p1, p2, rfl, rfl, rfl, h0, h1, h2⟩ := trodAll_three hA
  obtain ⟨rfl, rfl⟩ := trodVars_none hV
  obtain ⟨s0, rfl, rfl, rfl, hs0⟩ := open_string Try.underlying9 (hval 0 9 v0 rfl rfl) h0
  obtain ⟨s2, rfl, rfl, rfl, hs2⟩ := open_string Try.underlying9 (hval 2 9 v2 rfl rfl) h2
  obtain ⟨a1, len1, cap1, rfl⟩ := okWide_slice Try.underlying24 (hval 1 24 v1 rfl rfl)
  refine (walk s0 s2 _ W (dum W hsh) rfl h1).mono fun e W' ⟨he, hg⟩ => ?_
  subst he
  exact ⟨_, rfl, law_post (tb := 4) hW' (by kernel_rfl) (by rw [Try.params4]; decide +kernel) hg rfl rfl Try.underlying4 rfl rfl rfl⟩
theorem over : Rows.checkRulesRow.holds Try.pinned (OpenSpec.ofChange Rows.checkRulesSpec) :=
  OpenClaim.holds_of_wide 4 Try.f4 rfl rfl rfl rfl rfl rfl rfl ⟨rfl, rfl, rfl, rfl, rfl⟩ rfl rfl rfl rfl rfl (by kernel_rfl) Try.func4 (by kernel_rfl)
    (of_decide_eq_true (by kernel_rfl)) (by unfold Func.isWrapper; first | (rw [if_pos (by decide +kernel)]; kernel_rfl) | (rw [if_neg (by decide +kernel)]; exact ⟨rfl, rfl⟩))
    (fun os started H enc _ => lifted os started H enc)
/-- THE STATEMENT -/
theorem proved : Rows.CheckRulesSaid :=
  over
#print axioms proved
end Go.Proofs.Ytjidefnbancmfaa.checkRules
