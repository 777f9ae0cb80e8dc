/- A part of the proof: CValueFact. -/
import Derived.Test.YtjidefnbancmfaaDoorVcH
import Derived.Test.YtjidefnbancmfaaDoorTie
import Derived.Test.YtjidefnbancmfaaDoorCards
import Derived.ProofKit
import Derived.LaidMore
import Derived.OpenShut
import Derived.Stop.Joined
import Derived.SevenTiedAt
import Derived.HandedShaped
/- ValueFact: for all facts the law 'delphilaw6.ValueFact' returns true. -/
set_option linter.unusedVariables false
namespace Go.Proofs.YtjidefnbancmfaaDoor.valueFact
open Go Go.ChangeShapes Go.WideShapes Go.ChangeAt Go.RowKit Go.AE
theorem own : ownKnob Tryd.prog.godebug = none := by kernel_rfl
theorem walk {H : Type} {enc : TypeId × Value → H} (a : Array Value) (W : World) (hg : GlobsAre W) {d0 : DataW H} {p0 : List MemPlace} (h0 : DataW.Trod enc Tryd.prog W 0 (fun _ => true) true 36 (.agg a) d0 p0) :
    Calls Tryd.prog 4 #[.agg a] W fun e W' => e = .returned (.bool true) ∧ Below W.heap.size W W' := by
  obtain ⟨fuel, hf⟩ := h0
  have op := opens_struct (enc := enc) (w := W) (P := Tryd.prog) Tryd.underlying36 rfl (by kernel_rfl) (opensF_cons (k := 1) (opens_str Tryd.underlying9 (by kernel_rfl)) (by kernel_rfl) rfl (opensF_cons (k := 1) (opens_slice Tryd.underlying22 (by kernel_rfl) (by decide +kernel) opnT (dum_of hg)) (by kernel_rfl) rfl opensF_nil))
  obtain ⟨aw1, m1, p, xs, hR1, hA1, _, _, h5, h6⟩ := op.go hf (R.start hg) (fun b e x h hx => allRo_start hx)
  obtain ⟨x1, x2, rfl, ⟨rfl, _⟩, y1, y2, rfl, hs, rfl⟩ := h6
  obtain ⟨av, rfl, hone⟩ := slice_one hs
  obtain ⟨hrd, hby, _⟩ := terms_rd hs
  obtain ⟨v', aw', h1, rfl, h2⟩ := valueFact_law codesV beginsV formatsV (nm := p.1) (aw := aw1) hone hrd hby
  refine ((callR_ok tabV_ok h1).2 W _ _ #[.agg a] hR1 ⟨_, _, rfl, ⟨a, rfl, h5⟩, rfl⟩).mono ?_
  rintro e W' ⟨v', m', rfl, rfl, _, hb⟩
  exact ⟨rfl, hb.belowRo hA1⟩
theorem door_met (os : Os) (args : Array Value) : laidMetH Tryd.prog Rows.valueFactRow.laid ((World.doorLaid Tryd.prog 400 os).forCall (fun _ _ => 0) ⟨#[], args, []⟩).memory :=
  laidMetH_of_parts3 (fuel := 8) (laidMet_of_run' 8 (by kernel_rfl) (by kernel_rfl)) (by kernel_rfl) (by kernel_rfl)
set_option maxRecDepth 100000 in
theorem lifted (os : Os) (started : os.Started) (H : Type) (enc : TypeId × Value → H) :
    ReturnsInHanded {} Tryd.checked os 4 .any (fun w args => (Rows.valueFactSpec.pre enc Tryd.prog Tryd.f4 [] false w args ∧ laidMetH Tryd.prog Rows.valueFactRow.laid w) ∧ sizedMet enc Tryd.prog Tryd.f4 (OpenSpec.ofChange Rows.valueFactSpec) false w args)
      (Rows.valueFactSpec.post enc Tryd.prog Tryd.f4 false true false false) := by
  refine returnsInHanded_of_change_and (C := Tryd.checked) (X := fun w _ => laidMetH Tryd.prog Rows.valueFactRow.laid w) (fun _ _ _ hh h => h.of_heap hh) own started (by kernel_rfl) Tryd.func4
    (ChangeSpec.witness_shaped (enc := enc) (C := Tryd.checked) (os := os) (X := fun w _ => laidMetH Tryd.prog Rows.valueFactRow.laid w) false (World.doorLaid Tryd.prog 400 os) #[.agg #[.string ⟨#[]⟩, .slice none 0 0]] 8 rfl (World.shaped_of_RefB (by kernel_rfl) (by kernel_rfl)) (by kernel_rfl) (by kernel_rfl) (by kernel_rfl) (door_met os _)) ?_
  intro W base args ds gs before hval0 hW _ _ hL _
  have hval : ∀ (j : Nat) t v, Tryd.f4.params[j]? = some t → args[j]? = some v → Value.okWide Tryd.prog W .any base t v := hval0
  have hW' := hW
  obtain ⟨p, q, hA0, hV, rfl, hfz, hnd⟩ := hW
  have hA : DataW.TrodAll enc Tryd.prog W 0 (fun _ => true) true Tryd.f4.params.toList args.toList ds p := hA0
  rw [Tryd.params4] at hA hval
  obtain ⟨v0, d0, rfl, rfl, h0⟩ := trodAll_one hA
  obtain ⟨rfl, rfl⟩ := trodVars_none hV
  obtain ⟨c0, rfl, _⟩ := okWide_struct Tryd.underlying36 (hval 0 36 v0 rfl rfl)
  refine (walk c0 W (globs_laid (by kernel_rfl) hL (.tail _ (.tail _ (.head _)))) h0).mono fun e W' ⟨he, hg⟩ => ?_
  subst he
  exact ⟨_, rfl, law_post (tb := 4) hW' (by kernel_rfl) (by rw [Tryd.params4]; decide +kernel) hg rfl rfl Tryd.underlying4 rfl rfl rfl⟩
theorem over : Rows.valueFactRow.holds Tryd.pinned (OpenSpec.ofChange Rows.valueFactSpec) :=
  OpenClaim.holds_of_wide 4 Tryd.f4 rfl rfl rfl rfl rfl rfl rfl ⟨rfl, rfl, rfl, rfl, rfl⟩ rfl rfl rfl rfl rfl (by kernel_rfl) Tryd.func4 (by kernel_rfl)
    (of_decide_eq_true (by kernel_rfl)) (by unfold Func.isWrapper; first | (rw [if_pos (by decide +kernel)]; kernel_rfl) | (rw [if_neg (by decide +kernel)]; exact ⟨rfl, rfl⟩))
    (fun os started H enc _ => lifted os started H enc)
/-- THE STATEMENT -/
theorem proved : Rows.ValueFactCardSaid :=
  Claim7.holds_tied_plain_at .later [] [.data, .data, .data] true (true, "a8d9581dfe45841ed0473498917df9885dfe58e64054103e19448031f3d2bdf0") false
    over (fun _ h => by cases h) (by kernel_rfl) (fun _ h => by cases h) valueFact_row_tie rfl ⟨rfl, rfl⟩ (by kernel_rfl) rfl
    (fun f fn hf hfn => by
      obtain rfl : f = 4 := Option.some.inj ((show Tryd.prog.funcNamed "delphi/delphilaw6.ValueFact" = some 4 by kernel_rfl).symm.trans hf) |>.symm
      obtain rfl : fn = Tryd.f4 := (Option.some.inj (Tryd.func4.symm.trans hfn)).symm
      exact ⟨by kernel_rfl, fun j t ht => by
        rw [Tryd.params4] at ht
        rcases j with _ | j <;> simp at ht <;> subst ht <;> decide +kernel⟩)
    (by kernel_rfl)
#print axioms proved
end Go.Proofs.YtjidefnbancmfaaDoor.valueFact
