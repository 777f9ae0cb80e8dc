/- RelationAll: for every number and all operations the law 'delphilaw11.RelationAll' returns true, and what was there is as it was. No condition. -/
import Derived.Test.YtjidefnbancmfaaPRel21
import Derived.Test.YtjidefnbancmfaaB30
import Derived.HandedShaped
set_option linter.unusedVariables false
namespace Go.Proofs.Ytjidefnbancmfaa.relationAll
open Go.AE Go.ChangeShapes Go.WideShapes Go.ChangeAt Go.RowKit
open Go.ChangeMaps (open_string)
theorem own : ownKnob Try.prog.godebug = none := by kernel_rfl
theorem tab_ok : TabOK Try.prog (tabW Try.prog [30]) := tabW_ok fun f hf aw => by
  simp only [List.mem_cons, List.not_mem_nil, or_false] at hf
  subst hf; exact good30 aw
theorem begun : Begun (tabW Try.prog [30]) 30 := fun aw => .prim (.inr ⟨by simp, rfl, rfl, rfl⟩)
theorem dum (W : World) (h : W.ShapedOpen Try.prog) : ∃ cur ty lo hi, W.heap[0]? = some (.cells cur ty (lo, hi)) := by
  have h0 : ∃ zt, (((begin Try.prog (fun _ _ => 0) default).world).heap[0]?).bind Obj.row? = some zt := Option.isSome_iff_exists.1 (by kernel_rfl)
  obtain ⟨⟨z, ty⟩, hz⟩ := h0
  obtain ⟨cs, h1, _⟩ := h.1 0 z ty (by decide +kernel) hz
  exact ⟨cs, ty, _, _, h1⟩
set_option maxRecDepth 100000 in
theorem opn {H : Type} {enc : TypeId × Value → H} {W : World} (hd : ∃ cur ty lo hi, W.heap[0]? = some (.cells cur ty (lo, hi))) : Opens enc Try.prog W 70 (List (Int × List Int × Unit)) (SliceR OpR) :=
  opens_slice Try.underlying70 (by kernel_rfl) (by decide +kernel) (opens_struct Try.underlying75 rfl (by kernel_rfl) (opensF_cons (k := 1) (opens_int Try.underlying3 (by kernel_rfl)) (by kernel_rfl) rfl (opensF_cons (k := 1) (opens_slice Try.underlying22 (by kernel_rfl) (by decide +kernel) (opens_int Try.underlying3 (by kernel_rfl)) hd) (by kernel_rfl) rfl opensF_nil))) hd
theorem walk {H : Type} {enc : TypeId × Value → H} (n : Int) (v : Value) (W : World) (hd : ∃ cur ty lo hi, W.heap[0]? = some (.cells cur ty (lo, hi))) (hc : v.cells.toList = [v]) {d : DataW H} {p : List MemPlace} (ht : DataW.Trod enc Try.prog W 0 (fun _ => true) true 70 v d p) :
    Calls Try.prog 10 #[.int .i64 n, v] W fun e W' => e = .returned (.bool true) ∧ Below W.heap.size W W' := by
  obtain ⟨aw0, m0, ops, x, hR, hA, _, _, hv, hrel⟩ := opens_arg (opn hd) hc ht (R.empty W) (fun b e x h => by cases h)
  obtain ⟨v', aw', h1, rfl, h2⟩ := relAll_law (codesW [30]) (fun args aw v aw' h => .inl h) begun (width := n) (opsV := x) (ops := ops) (aw := aw0) hrel
  refine ((callR_ok tab_ok h1).2 W _ _ #[.int .i64 n, v] hR ⟨_, _, rfl, rfl, _, _, rfl, hv, rfl⟩).mono ?_
  rintro e W' ⟨v', m', rfl, rfl, _, hg⟩
  exact ⟨rfl, hg.belowRo hA⟩
set_option maxRecDepth 100000 in
theorem lifted (os : Os) (started : os.Started) (H : Type) (enc : TypeId × Value → H) :
    ReturnsInHanded {} Try.checked os 10 .any (Rows.relationAllSpec.pre6 enc Try.prog Try.f10 Rows.relationAllRow.domain false) (Rows.relationAllSpec.post enc Try.prog Try.f10 false true false false) := by
  refine returnsInHanded_of_change_shaped (C := Try.checked) own started (by kernel_rfl) Try.func10
    (ChangeSpec.witness6 (enc := enc) (C := Try.checked) false ⟨#[], #[.int .i64 0, .slice none 0 0], []⟩ 8 (by kernel_rfl) (by kernel_rfl) (by kernel_rfl) (by kernel_rfl)) ?_
  intro W base args ds gs before hval0 hW hcnd _ hsh _
  have hval : ∀ (j : Nat) t v, Try.f10.params[j]? = some t → args[j]? = some v → Value.okWide Try.prog W .any base t v := hval0
  have hW' := hW
  obtain ⟨p, q, hA0, hV, rfl, hfz, hnd⟩ := hW
  have hA : DataW.TrodAll enc Try.prog W 0 (fun _ => true) true Try.f10.params.toList args.toList ds p := hA0
  rw [Try.params10] at hA hval
  obtain ⟨v0, v1, d0, d1, p0, p1, rfl, rfl, rfl, h0, h1⟩ := trodAll_two hA
  obtain ⟨rfl, rfl⟩ := trodVars_none hV
  obtain ⟨n0, rfl, rfl, rfl, wf0⟩ := open_int Try.underlying3 (hval 0 3 v0 rfl rfl) h0
  obtain ⟨a1, len1, cap1, rfl⟩ := okWide_slice Try.underlying70 (hval 1 70 v1 rfl rfl)
  refine (walk n0 _ W (dum W hsh) rfl h1).mono fun e W' ⟨he, hg⟩ => ?_
  subst he
  exact ⟨_, rfl, law_post (tb := 4) hW' (by kernel_rfl) (by rw [Try.params10]; decide +kernel) hg rfl rfl Try.underlying4 rfl rfl rfl⟩
theorem over : Rows.relationAllRow.holds Try.pinned (OpenSpec.ofChange Rows.relationAllSpec) :=
  OpenClaim.holds_of_wide 10 Try.f10 rfl rfl rfl rfl rfl rfl rfl ⟨rfl, rfl, rfl, rfl, rfl⟩ rfl rfl rfl rfl rfl (by kernel_rfl) Try.func10 (by kernel_rfl)
    (of_decide_eq_true (by kernel_rfl)) (by unfold Func.isWrapper; first | (rw [if_pos (by decide +kernel)]; kernel_rfl) | (rw [if_neg (by decide +kernel)]; exact ⟨rfl, rfl⟩))
    (fun os started H enc _ => lifted os started H enc)
/-- THE STATEMENT -/
theorem proved : Rows.RelationAllSaid :=
  over
#print axioms proved
end Go.Proofs.Ytjidefnbancmfaa.relationAll
