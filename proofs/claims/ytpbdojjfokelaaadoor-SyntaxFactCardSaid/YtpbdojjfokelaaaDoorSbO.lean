/- A part of the proof: CSyntaxFact. -/
import Derived.Test.YtpbdojjfokelaaaDoorSbM
import Derived.Test.YtpbdojjfokelaaaDoorSbN
import Derived.Test.YtpbdojjfokelaaaDoorTie
import Derived.Test.YtpbdojjfokelaaaDoorCards
import Derived.ProofKit
import Derived.LaidMore
import Derived.OpenShut
import Derived.Stop.Joined
import Derived.SevenTiedAt
import Derived.HandedShaped
/- SyntaxFact: whatever the input the law 'delphi/delphilaw8.SyntaxFact' returns true, and what was there is as it was; the listed variables stand as the program's text lays them. -/
set_option linter.unusedVariables false
namespace Go.Proofs.YtpbdojjfokelaaaDoor.syntaxFact
open Go Go.ChangeShapes Go.WideShapes Go.ChangeAt Go.RowKit Go.AE
open Go.ChangeMaps (open_string)
theorem own : ownKnob Tryd.prog.godebug = none := by kernel_rfl
theorem bytes (s : ByteArray) : ∀ x ∈ strL s, x < 256 := by
  intro x hx
  simp only [strL, List.mem_map] at hx
  obtain ⟨b, _, rfl⟩ := hx
  exact b.toNat_lt
theorem walk (s0 : ByteArray)  (W : World) (hg : GlobsAre W) : Calls Tryd.prog 9 #[.string s0] W fun e W' => e = .returned (.bool true) ∧ Below W.heap.size W W' := by
  obtain ⟨v, aw', h1, rfl, h2⟩ := syntaxFact_law codesS formatsS parsesS joinsS extS (s := strL s0) (aw := AW.start) (bytes s0)
  refine ((callR_ok base_ok h1).2 W _ _ #[.string s0] (R.start hg) ⟨_, _, rfl, ⟨s0, rfl, rfl⟩, rfl⟩).mono ?_
  rintro e w' ⟨v', m', rfl, rfl, _, hb⟩
  exact ⟨rfl, hb.belowRo fun b e x h hx => allRo_start hx⟩
theorem door_met (os : Os) (args : Array Value) : laidMetH Tryd.prog Rows.syntaxFactRow.laid ((World.doorLaid Tryd.prog 400 os).forCall (fun _ _ => 0) ⟨#[], args, []⟩).memory :=
  laidMetH_of_parts3 (fuel := 8) (laidMet_of_run' 8 (by kernel_rfl) (by kernel_rfl)) (by kernel_rfl) (by kernel_rfl)
set_option maxRecDepth 100000 in
theorem lifted (os : Os) (started : os.Started) (H : Type) (enc : TypeId × Value → H) :
    ReturnsInHanded {} Tryd.checked os 9 .any (fun w args => (Rows.syntaxFactSpec.pre enc Tryd.prog Tryd.f9 [] false w args ∧ laidMetH Tryd.prog Rows.syntaxFactRow.laid w) ∧ sizedMet enc Tryd.prog Tryd.f9 (OpenSpec.ofChange Rows.syntaxFactSpec) false w args)
      (Rows.syntaxFactSpec.post enc Tryd.prog Tryd.f9 false true false false) := by
  refine returnsInHanded_of_change_and (C := Tryd.checked) (X := fun w _ => laidMetH Tryd.prog Rows.syntaxFactRow.laid w) (fun _ _ _ hh h => h.of_heap hh) own started (by kernel_rfl) Tryd.func9
    (ChangeSpec.witness_shaped (enc := enc) (C := Tryd.checked) (os := os) (X := fun w _ => laidMetH Tryd.prog Rows.syntaxFactRow.laid w) false (World.doorLaid Tryd.prog 400 os) #[.string ⟨#[97]⟩] 8 rfl (World.shaped_of_RefB (by kernel_rfl) (by kernel_rfl)) (by kernel_rfl) (by kernel_rfl) (by kernel_rfl) (door_met os _)) ?_
  intro W base args ds gs before hval0 hW _ _ hL _
  have hval : ∀ (j : Nat) t v, Tryd.f9.params[j]? = some t → args[j]? = some v → Value.okWide Tryd.prog W .any base t v := hval0
  have hW' := hW
  obtain ⟨p, q, hA0, hV, rfl, hfz, hnd⟩ := hW
  have hA : DataW.TrodAll enc Tryd.prog W 0 (fun _ => true) true Tryd.f9.params.toList args.toList ds p := hA0
  rw [Tryd.params9] at hA hval
  obtain ⟨v0, d0, rfl, rfl, h0⟩ := trodAll_one hA
  obtain ⟨rfl, rfl⟩ := trodVars_none hV
  obtain ⟨s0, rfl, rfl, rfl, hs0⟩ := open_string Tryd.underlying9 (hval 0 9 v0 rfl rfl) h0
  refine (walk s0 W (globs_laid hL (List.mem_filter.2 ⟨.tail _ (.tail _ (.head _)), rfl⟩))).mono fun e W' ⟨he, hg⟩ => ?_
  subst he
  exact ⟨_, rfl, law_post (tb := 4) hW' (by kernel_rfl) (by rw [Tryd.params9]; decide +kernel) hg rfl rfl Tryd.underlying4 rfl rfl rfl⟩
theorem over : Rows.syntaxFactRow.holds Tryd.pinned (OpenSpec.ofChange Rows.syntaxFactSpec) :=
  OpenClaim.holds_of_wide 9 Tryd.f9 rfl rfl rfl rfl rfl rfl rfl ⟨rfl, rfl, rfl, rfl, rfl⟩ rfl rfl rfl rfl rfl (by kernel_rfl) Tryd.func9 (by kernel_rfl)
    (of_decide_eq_true (by kernel_rfl)) (by unfold Func.isWrapper; first | (rw [if_pos (by decide +kernel)]; kernel_rfl) | (rw [if_neg (by decide +kernel)]; exact ⟨rfl, rfl⟩))
    (fun os started H enc _ => lifted os started H enc)
/-- THE STATEMENT -/
theorem proved : Rows.SyntaxFactCardSaid :=
  Claim7.holds_tied_plain_at .later [] [.data, .data, .data, .sentinel, .sentinel] true (true, "7843a5699bda0e4c2627c6823aaf590ac9bb11861cb6c615e94caabe945d7e1d") true
    over (fun _ h => by cases h) (by kernel_rfl) (fun _ h => by cases h) syntaxFact_row_tie rfl ⟨rfl, rfl⟩ (by kernel_rfl) rfl
    (fun f fn hf hfn => by
      obtain rfl : f = 9 := Option.some.inj ((show Tryd.prog.funcNamed "delphi/delphilaw8.SyntaxFact" = some 9 by kernel_rfl).symm.trans hf) |>.symm
      obtain rfl : fn = Tryd.f9 := (Option.some.inj (Tryd.func9.symm.trans hfn)).symm
      exact ⟨by kernel_rfl, fun j t ht => by
        rw [Tryd.params9] at ht
        rcases j with _ | j <;> simp at ht <;> subst ht <;> decide +kernel⟩)
    (by kernel_rfl)
#print axioms proved
end Go.Proofs.YtpbdojjfokelaaaDoor.syntaxFact
