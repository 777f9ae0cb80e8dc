/- A part of the proof: CValueTable. -/
import Derived.Test.YtjidefnbancmfaaDoorVdI
import Derived.Test.YtjidefnbancmfaaDoorTie
import Derived.Test.YtjidefnbancmfaaDoorCards
import Derived.ProofKit
import Derived.LaidMore
import Derived.OpenShut
import Derived.Stop.Joined
import Derived.SevenTiedAt
import Derived.HandedShaped
/- ValueTable: for all lists of terms the law 'delphilaw6.ValueTable' returns true. -/
set_option linter.unusedVariables false
namespace Go.Proofs.YtjidefnbancmfaaDoor.valueTable
open Go Go.ChangeShapes Go.WideShapes Go.ChangeAt Go.RowKit Go.AE
theorem own : ownKnob Tryd.prog.godebug = none := by kernel_rfl
theorem walk {H : Type} {enc : TypeId × Value → H} (v : Value) (W : World) (hg : GlobsAre W) (hc : v.cells.toList = [v]) {d0 : DataW H} {p0 : List MemPlace} (h0 : DataW.Trod enc Tryd.prog W 0 (fun _ => true) true 22 v d0 p0) :
    Calls Tryd.prog 3 #[v] W fun e W' => e = .returned (.bool true) ∧ Below W.heap.size W W' := by
  obtain ⟨aw1, m1, l, x, hR1, hA1, _, _, hv, hs⟩ := opens_arg (opens_slice Tryd.underlying22 (by kernel_rfl) (by decide +kernel) opnT (dum_of hg)) hc h0 (R.start hg) (fun b e x h hx => allRo_start hx)
  obtain ⟨hrd, hby, _⟩ := terms_rd hs
  obtain ⟨v', aw', h1, rfl, h2⟩ := valueTable_law codesV beginsV (aw := aw1) hrd hby
  refine ((callR_ok tabV_ok h1).2 W _ _ #[v] hR1 ⟨_, _, rfl, hv, rfl⟩).mono ?_
  rintro e W' ⟨v', m', rfl, rfl, _, hb⟩
  exact ⟨rfl, hb.belowRo hA1⟩
theorem door_met (os : Os) (args : Array Value) : laidMetH Tryd.prog Rows.valueTableRow.laid ((World.doorLaid Tryd.prog 400 os).forCall (fun _ _ => 0) ⟨#[], args, []⟩).memory :=
  laidMetH_of_parts3 (fuel := 8) (laidMet_of_run' 8 (by kernel_rfl) (by kernel_rfl)) (by kernel_rfl) (by kernel_rfl)
set_option maxRecDepth 100000 in
theorem lifted (os : Os) (started : os.Started) (H : Type) (enc : TypeId × Value → H) :
    ReturnsInHanded {} Tryd.checked os 3 .any (fun w args => (Rows.valueTableSpec.pre enc Tryd.prog Tryd.f3 [] false w args ∧ laidMetH Tryd.prog Rows.valueTableRow.laid w) ∧ sizedMet enc Tryd.prog Tryd.f3 (OpenSpec.ofChange Rows.valueTableSpec) false w args)
      (Rows.valueTableSpec.post enc Tryd.prog Tryd.f3 false true false false) := by
  refine returnsInHanded_of_change_and (C := Tryd.checked) (X := fun w _ => laidMetH Tryd.prog Rows.valueTableRow.laid w) (fun _ _ _ hh h => h.of_heap hh) own started (by kernel_rfl) Tryd.func3
    (ChangeSpec.witness_shaped (enc := enc) (C := Tryd.checked) (os := os) (X := fun w _ => laidMetH Tryd.prog Rows.valueTableRow.laid w) false (World.doorLaid Tryd.prog 400 os) #[.slice none 0 0] 8 rfl (World.shaped_of_RefB (by kernel_rfl) (by kernel_rfl)) (by kernel_rfl) (by kernel_rfl) (by kernel_rfl) (door_met os _)) ?_
  intro W base args ds gs before hval0 hW _ _ hL _
  have hval : ∀ (j : Nat) t v, Tryd.f3.params[j]? = some t → args[j]? = some v → Value.okWide Tryd.prog W .any base t v := hval0
  have hW' := hW
  obtain ⟨p, q, hA0, hV, rfl, hfz, hnd⟩ := hW
  have hA : DataW.TrodAll enc Tryd.prog W 0 (fun _ => true) true Tryd.f3.params.toList args.toList ds p := hA0
  rw [Tryd.params3] at hA hval
  obtain ⟨v0, d0, rfl, rfl, h0⟩ := trodAll_one hA
  obtain ⟨rfl, rfl⟩ := trodVars_none hV
  obtain ⟨a1, len1, cap1, rfl⟩ := okWide_slice Tryd.underlying22 (hval 0 22 v0 rfl rfl)
  refine (walk _ W (globs_laid (by kernel_rfl) hL (.tail _ (.tail _ (.head _)))) rfl h0).mono fun e W' ⟨he, hg⟩ => ?_
  subst he
  exact ⟨_, rfl, law_post (tb := 4) hW' (by kernel_rfl) (by rw [Tryd.params3]; decide +kernel) hg rfl rfl Tryd.underlying4 rfl rfl rfl⟩
theorem over : Rows.valueTableRow.holds Tryd.pinned (OpenSpec.ofChange Rows.valueTableSpec) :=
  OpenClaim.holds_of_wide 3 Tryd.f3 rfl rfl rfl rfl rfl rfl rfl ⟨rfl, rfl, rfl, rfl, rfl⟩ rfl rfl rfl rfl rfl (by kernel_rfl) Tryd.func3 (by kernel_rfl)
    (of_decide_eq_true (by kernel_rfl)) (by unfold Func.isWrapper; first | (rw [if_pos (by decide +kernel)]; kernel_rfl) | (rw [if_neg (by decide +kernel)]; exact ⟨rfl, rfl⟩))
    (fun os started H enc _ => lifted os started H enc)
/-- THE STATEMENT -/
theorem proved : Rows.ValueTableCardSaid :=
  Claim7.holds_tied_plain_at .later [] [.data, .data, .data] true (true, "a8d9581dfe45841ed0473498917df9885dfe58e64054103e19448031f3d2bdf0") false
    over (fun _ h => by cases h) (by kernel_rfl) (fun _ h => by cases h) valueTable_row_tie rfl ⟨rfl, rfl⟩ (by kernel_rfl) rfl
    (fun f fn hf hfn => by
      obtain rfl : f = 3 := Option.some.inj ((show Tryd.prog.funcNamed "delphi/delphilaw6.ValueTable" = some 3 by kernel_rfl).symm.trans hf) |>.symm
      obtain rfl : fn = Tryd.f3 := (Option.some.inj (Tryd.func3.symm.trans hfn)).symm
      exact ⟨by kernel_rfl, fun j t ht => by
        rw [Tryd.params3] at ht
        rcases j with _ | j <;> simp at ht <;> subst ht <;> decide +kernel⟩)
    (by kernel_rfl)
#print axioms proved
end Go.Proofs.YtjidefnbancmfaaDoor.valueTable
