/- A part of the proof: CCheckVars. -/
import Derived.Test.YtjidefnbancmfaaKvH
import Derived.Test.YtjidefnbancmfaaKvI
import Derived.HandedShaped
/- CheckVars: for every list of truth values and all numbers the law 'delphilaw9.CheckVars' returns true, and what was there is as it was. No condition. -/
set_option linter.unusedVariables false
namespace Go.Proofs.Ytjidefnbancmfaa.checkVars
open Go.AE Go.ChangeShapes Go.WideShapes Go.ChangeAt Go.RowKit
open Go.ChangeMaps (open_string)
theorem own : ownKnob Try.prog.godebug = none := by kernel_rfl
theorem tab_ok : TabOK Try.prog (tabW Try.prog [13]) := tabW_ok fun f hf aw => by
  simp only [List.mem_cons, List.not_mem_nil, or_false] at hf
  subst hf; exact good13 aw
theorem begun : Begins (tabW Try.prog [13]) 13 := fun aw => .prim (.inr ⟨by simp, rfl, rfl, rfl⟩)
theorem dum (W : World) (h : W.ShapedOpen Try.prog) : ∃ cur ty lo hi, W.heap[0]? = some (.cells cur ty (lo, hi)) := by
  have h0 : ∃ zt, (((begin Try.prog (fun _ _ => 0) default).world).heap[0]?).bind Obj.row? = some zt := Option.isSome_iff_exists.1 (by kernel_rfl)
  obtain ⟨⟨z, ty⟩, hz⟩ := h0
  obtain ⟨cs, h1, _⟩ := h.1 0 z ty (by decide +kernel) hz
  exact ⟨cs, ty, _, _, h1⟩
theorem opn {H : Type} {enc : TypeId × Value → H} {W : World} (hd : ∃ cur ty lo hi, W.heap[0]? = some (.cells cur ty (lo, hi))) : Opens enc Try.prog W 44 (List Bool) (SliceR BoolC) :=
  opens_slice Try.underlying44 (by kernel_rfl) (by decide +kernel) (opens_bool Try.underlying4 (by kernel_rfl)) hd
theorem walk {H : Type} {enc : TypeId × Value → H} (n0 n1 n2 : Int) (v : Value) (W : World) (hd : ∃ cur ty lo hi, W.heap[0]? = some (.cells cur ty (lo, hi))) (hc : v.cells.toList = [v]) {d : DataW H} {p : List MemPlace} (ht : DataW.Trod enc Try.prog W 0 (fun _ => true) true 44 v d p) :
    Calls Try.prog 5 #[v, .int .i64 n0, .int .i64 n1, .int .i64 n2] W fun e W' => e = .returned (.bool true) ∧ Below W.heap.size W W' := by
  obtain ⟨aw0, m0, fs, x, hR, hA, _, _, hv, hrel⟩ := opens_arg (opn hd) hc ht (R.empty W) (fun b e x h => by cases h)
  obtain ⟨v', aw', h1, rfl, h2⟩ := checkVars_law (codesW [13]) begun (av := x) (bs := fs) (hd := n0) (ng := n1) (ls := n2) (aw := aw0) hrel
  refine ((callR_ok tab_ok h1).2 W _ _ #[v, .int .i64 n0, .int .i64 n1, .int .i64 n2] hR ⟨_, _, rfl, hv, _, _, rfl, rfl, _, _, rfl, rfl, _, _, rfl, rfl, rfl⟩).mono ?_
  rintro e W' ⟨v', m', rfl, rfl, _, hg⟩
  exact ⟨rfl, hg.belowRo hA⟩
set_option maxRecDepth 100000 in
theorem lifted (os : Os) (started : os.Started) (H : Type) (enc : TypeId × Value → H) :
    ReturnsInHanded {} Try.checked os 5 .any (Rows.checkVarsSpec.pre6 enc Try.prog Try.f5 Rows.checkVarsRow.domain false) (Rows.checkVarsSpec.post enc Try.prog Try.f5 false true false false) := by
  refine returnsInHanded_of_change_shaped (C := Try.checked) own started (by kernel_rfl) Try.func5
    (ChangeSpec.witness6 (enc := enc) (C := Try.checked) false ⟨#[], #[.slice none 0 0, .int .i64 0, .int .i64 0, .int .i64 0], []⟩ 8 (by kernel_rfl) (by kernel_rfl) (by kernel_rfl) (by kernel_rfl)) ?_
  intro W base args ds gs before hval0 hW hcnd _ hsh _
  have hval : ∀ (j : Nat) t v, Try.f5.params[j]? = some t → args[j]? = some v → Value.okWide Try.prog W .any base t v := hval0
  have hW' := hW
  obtain ⟨p, q, hA0, hV, rfl, hfz, hnd⟩ := hW
  have hA : DataW.TrodAll enc Try.prog W 0 (fun _ => true) true Try.f5.params.toList args.toList ds p := hA0
  rw [Try.params5] at hA hval
  obtain ⟨v0, v1, v2, v3, d0, d1, d2, d3, p0, p1, p2, p3, rfl, rfl, rfl, h0, h1, h2, h3⟩ := trodAll_four hA
  obtain ⟨rfl, rfl⟩ := trodVars_none hV
  obtain ⟨a0, len0, cap0, rfl⟩ := okWide_slice Try.underlying44 (hval 0 44 v0 rfl rfl)
  obtain ⟨n1, rfl, rfl, rfl, wf1⟩ := open_int Try.underlying3 (hval 1 3 v1 rfl rfl) h1
  obtain ⟨n2, rfl, rfl, rfl, wf2⟩ := open_int Try.underlying3 (hval 2 3 v2 rfl rfl) h2
  obtain ⟨n3, rfl, rfl, rfl, wf3⟩ := open_int Try.underlying3 (hval 3 3 v3 rfl rfl) h3
  refine (walk n1 n2 n3 _ W (dum W hsh) rfl h0).mono fun e W' ⟨he, hg⟩ => ?_
  subst he
  exact ⟨_, rfl, law_post (tb := 4) hW' (by kernel_rfl) (by rw [Try.params5]; decide +kernel) hg rfl rfl Try.underlying4 rfl rfl rfl⟩
theorem over : Rows.checkVarsRow.holds Try.pinned (OpenSpec.ofChange Rows.checkVarsSpec) :=
  OpenClaim.holds_of_wide 5 Try.f5 rfl rfl rfl rfl rfl rfl rfl ⟨rfl, rfl, rfl, rfl, rfl⟩ rfl rfl rfl rfl rfl (by kernel_rfl) Try.func5 (by kernel_rfl)
    (of_decide_eq_true (by kernel_rfl)) (by unfold Func.isWrapper; first | (rw [if_pos (by decide +kernel)]; kernel_rfl) | (rw [if_neg (by decide +kernel)]; exact ⟨rfl, rfl⟩))
    (fun os started H enc _ => lifted os started H enc)
/-- THE STATEMENT -/
theorem proved : Rows.CheckVarsSaid :=
  over
#print axioms proved
end Go.Proofs.Ytjidefnbancmfaa.checkVars
