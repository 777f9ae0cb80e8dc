/- A part of the proof: CValueOrder. -/
import Derived.Test.YtjidefnbancmfaaDoorVbH
import Derived.Test.YtjidefnbancmfaaDoorTie
import Derived.Test.YtjidefnbancmfaaDoorCards
import Derived.ProofKit
import Derived.LaidMore
import Derived.OpenShut
import Derived.Stop.Joined
import Derived.SevenTiedAt
import Derived.HandedShaped
/- ValueOrder: for all terms the law 'delphilaw6.ValueOrder' returns true. -/
set_option linter.unusedVariables false
namespace Go.Proofs.YtjidefnbancmfaaDoor.valueOrder
open Go Go.ChangeShapes Go.WideShapes Go.ChangeAt Go.RowKit Go.AE
theorem own : ownKnob Tryd.prog.godebug = none := by kernel_rfl
theorem term_arg {H : Type} {enc : TypeId × Value → H} {W : World} {arr : Array Value} {d : DataW H} {p : List MemPlace} (ht : DataW.Trod enc Tryd.prog W 0 (fun _ => true) true 27 (.agg arr) d p) {aw : AW} {m : Map} (hR : R aw W m W.heap.size) (hA : AllRo aw m) :
    ∃ aw' m' t, R aw' W m' W.heap.size ∧ AllRo aw' m' ∧ m.le m' ∧ VR m' (.agg (tkC t)) (.agg arr) ∧ ∀ c ∈ t.s, c < 256 := by
  obtain ⟨fuel, hf⟩ := ht
  have op := opens_struct (enc := enc) (w := W) (P := Tryd.prog) Tryd.underlying27 rfl (by kernel_rfl) (opensF_cons (k := 1) (opens_int Tryd.underlying3 (by kernel_rfl)) (by kernel_rfl) rfl (opensF_cons (k := 1) (opens_str Tryd.underlying9 (by kernel_rfl)) (by kernel_rfl) rfl (opensF_cons (k := 1) (opens_int Tryd.underlying2 (by kernel_rfl)) (by kernel_rfl) rfl opensF_nil)))
  obtain ⟨aw', m', a, xs, h1, h2, h3, h4, h5, h6⟩ := op.go hf hR hA
  obtain ⟨x1, x2, rfl, ⟨rfl, _⟩, x3, x4, rfl, ⟨rfl, hb, _⟩, x5, x6, rfl, ⟨rfl, _⟩, rfl⟩ := h6
  exact ⟨aw', m', ⟨a.1, a.2.1, a.2.2.1⟩, h1, h2, h3, ⟨arr, rfl, h5⟩, hb⟩
theorem walk {H : Type} {enc : TypeId × Value → H} (a b : Array Value) (W : World) (hg : GlobsAre W) {d0 d1 : DataW H} {p0 p1 : List MemPlace} (h0 : DataW.Trod enc Tryd.prog W 0 (fun _ => true) true 27 (.agg a) d0 p0) (h1 : DataW.Trod enc Tryd.prog W 0 (fun _ => true) true 27 (.agg b) d1 p1) :
    Calls Tryd.prog 6 #[.agg a, .agg b] W fun e W' => e = .returned (.bool true) ∧ Below W.heap.size W W' := by
  obtain ⟨aw1, m1, t, hR1, hA1, _, v1, b1⟩ := term_arg h0 (R.start hg) (fun b e x h hx => allRo_start hx)
  obtain ⟨aw2, m2, u, hR2, hA2, hm, v2, b2⟩ := term_arg h1 hR1 hA1
  obtain ⟨v', aw', h1, rfl, h2⟩ := valueOrder_law codesV beginsV formatsV (aw := aw2) b1 b2
  refine ((callR_ok tabV_ok h1).2 W _ _ #[.agg a, .agg b] hR2 ⟨_, _, rfl, VR.mono hm v1, _, _, rfl, v2, rfl⟩).mono ?_
  rintro e W' ⟨v', m', rfl, rfl, _, hb⟩
  exact ⟨rfl, hb.belowRo hA2⟩
theorem door_met (os : Os) (args : Array Value) : laidMetH Tryd.prog Rows.valueOrderRow.laid ((World.doorLaid Tryd.prog 400 os).forCall (fun _ _ => 0) ⟨#[], args, []⟩).memory :=
  laidMetH_of_parts3 (fuel := 8) (laidMet_of_run' 8 (by kernel_rfl) (by kernel_rfl)) (by kernel_rfl) (by kernel_rfl)
set_option maxRecDepth 100000 in
theorem lifted (os : Os) (started : os.Started) (H : Type) (enc : TypeId × Value → H) :
    ReturnsInHanded {} Tryd.checked os 6 .any (fun w args => (Rows.valueOrderSpec.pre enc Tryd.prog Tryd.f6 [] false w args ∧ laidMetH Tryd.prog Rows.valueOrderRow.laid w) ∧ sizedMet enc Tryd.prog Tryd.f6 (OpenSpec.ofChange Rows.valueOrderSpec) false w args)
      (Rows.valueOrderSpec.post enc Tryd.prog Tryd.f6 false true false false) := by
  refine returnsInHanded_of_change_and (C := Tryd.checked) (X := fun w _ => laidMetH Tryd.prog Rows.valueOrderRow.laid w) (fun _ _ _ hh h => h.of_heap hh) own started (by kernel_rfl) Tryd.func6
    (ChangeSpec.witness_shaped (enc := enc) (C := Tryd.checked) (os := os) (X := fun w _ => laidMetH Tryd.prog Rows.valueOrderRow.laid w) false (World.doorLaid Tryd.prog 400 os) #[.agg #[.int .i64 0, .string ⟨#[]⟩, .int .i64 0], .agg #[.int .i64 0, .string ⟨#[]⟩, .int .i64 0]] 8 rfl (World.shaped_of_RefB (by kernel_rfl) (by kernel_rfl)) (by kernel_rfl) (by kernel_rfl) (by kernel_rfl) (door_met os _)) ?_
  intro W base args ds gs before hval0 hW _ _ hL _
  have hval : ∀ (j : Nat) t v, Tryd.f6.params[j]? = some t → args[j]? = some v → Value.okWide Tryd.prog W .any base t v := hval0
  have hW' := hW
  obtain ⟨p, q, hA0, hV, rfl, hfz, hnd⟩ := hW
  have hA : DataW.TrodAll enc Tryd.prog W 0 (fun _ => true) true Tryd.f6.params.toList args.toList ds p := hA0
  rw [Tryd.params6] at hA hval
  obtain ⟨v0, v1, d0, d1, p0, p1, rfl, rfl, rfl, h0, h1⟩ := trodAll_two hA
  obtain ⟨rfl, rfl⟩ := trodVars_none hV
  obtain ⟨c0, rfl, _⟩ := okWide_struct Tryd.underlying27 (hval 0 27 v0 rfl rfl)
  obtain ⟨c1, rfl, _⟩ := okWide_struct Tryd.underlying27 (hval 1 27 v1 rfl rfl)
  refine (walk c0 c1 W (globs_laid (by kernel_rfl) hL (.tail _ (.tail _ (.head _)))) h0 h1).mono fun e W' ⟨he, hg⟩ => ?_
  subst he
  exact ⟨_, rfl, law_post (tb := 4) hW' (by kernel_rfl) (by rw [Tryd.params6]; decide +kernel) hg rfl rfl Tryd.underlying4 rfl rfl rfl⟩
theorem over : Rows.valueOrderRow.holds Tryd.pinned (OpenSpec.ofChange Rows.valueOrderSpec) :=
  OpenClaim.holds_of_wide 6 Tryd.f6 rfl rfl rfl rfl rfl rfl rfl ⟨rfl, rfl, rfl, rfl, rfl⟩ rfl rfl rfl rfl rfl (by kernel_rfl) Tryd.func6 (by kernel_rfl)
    (of_decide_eq_true (by kernel_rfl)) (by unfold Func.isWrapper; first | (rw [if_pos (by decide +kernel)]; kernel_rfl) | (rw [if_neg (by decide +kernel)]; exact ⟨rfl, rfl⟩))
    (fun os started H enc _ => lifted os started H enc)
/-- THE STATEMENT -/
theorem proved : Rows.ValueOrderCardSaid :=
  Claim7.holds_tied_plain_at .later [] [.data, .data, .data] true (true, "a8d9581dfe45841ed0473498917df9885dfe58e64054103e19448031f3d2bdf0") false
    over (fun _ h => by cases h) (by kernel_rfl) (fun _ h => by cases h) valueOrder_row_tie rfl ⟨rfl, rfl⟩ (by kernel_rfl) rfl
    (fun f fn hf hfn => by
      obtain rfl : f = 6 := Option.some.inj ((show Tryd.prog.funcNamed "delphi/delphilaw6.ValueOrder" = some 6 by kernel_rfl).symm.trans hf) |>.symm
      obtain rfl : fn = Tryd.f6 := (Option.some.inj (Tryd.func6.symm.trans hfn)).symm
      exact ⟨by kernel_rfl, fun j t ht => by
        rw [Tryd.params6] at ht
        rcases j with _ | _ | j <;> simp at ht <;> subst ht <;> decide +kernel⟩)
    (by kernel_rfl)
#print axioms proved
end Go.Proofs.YtjidefnbancmfaaDoor.valueOrder
