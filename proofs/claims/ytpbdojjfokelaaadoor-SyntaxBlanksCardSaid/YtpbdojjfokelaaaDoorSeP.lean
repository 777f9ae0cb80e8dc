/- A part of the proof: CSyntaxBlanks. -/
import Derived.Test.YtpbdojjfokelaaaDoorSeN
import Derived.Test.YtpbdojjfokelaaaDoorSeO
import Derived.Test.YtpbdojjfokelaaaDoorTie
import Derived.Test.YtpbdojjfokelaaaDoorCards
import Derived.ProofKit
import Derived.LaidMore
import Derived.OpenShut
import Derived.Stop.Joined
import Derived.SevenTiedAt
import Derived.HandedShaped
set_option linter.unusedVariables false
namespace Go.Proofs.YtpbdojjfokelaaaDoor.syntaxBlanks
open Go Go.ChangeShapes Go.WideShapes Go.ChangeAt Go.RowKit Go.AE
open Go.ChangeMaps (open_string)
theorem own : ownKnob Tryd.prog.godebug = none := by kernel_rfl
theorem bytes (s : ByteArray) : ∀ x ∈ strL s, x < 256 := by
  intro x hx
  simp only [strL, List.mem_map] at hx
  obtain ⟨b, _, rfl⟩ := hx
  exact b.toNat_lt
theorem dum (W : World) (h : W.ShapedOpen Tryd.prog) : ∃ cur ty lo hi, W.heap[0]? = some (.cells cur ty (lo, hi)) := by
  have h0 : ∃ zt, (((begin Tryd.prog (fun _ _ => 0) default).world).heap[0]?).bind Obj.row? = some zt := Option.isSome_iff_exists.1 (by kernel_rfl)
  obtain ⟨⟨z, ty⟩, hz⟩ := h0
  obtain ⟨cs, h1, _⟩ := h.1 0 z ty (by decide +kernel) hz
  exact ⟨cs, ty, _, _, h1⟩
set_option maxRecDepth 100000 in
theorem opn1 {H : Type} {enc : TypeId × Value → H} {W : World} (hd : ∃ cur ty lo hi, W.heap[0]? = some (.cells cur ty (lo, hi))) : Opens enc Tryd.prog W 32 (List Int) (SliceR (fun _ n xs => xs = [V.int .i64 n] ∧ (Lit.int .i64 n).wf = true)) :=
  opens_slice Tryd.underlying32 (by kernel_rfl) (by decide +kernel) (opens_int Tryd.underlying3 (by kernel_rfl)) hd
theorem walk {H : Type} {enc : TypeId × Value → H} (W : World) (s0 : ByteArray) (v1 : Value) (hc1 : v1.cells.toList = [v1]) {d1 : DataW H} {p1 : List MemPlace} (ht1 : DataW.Trod enc Tryd.prog W 0 (fun _ => true) true 32 v1 d1 p1) (hg : GlobsAre W) (hd : ∃ cur ty lo hi, W.heap[0]? = some (.cells cur ty (lo, hi))) : Calls Tryd.prog 7 #[.string s0, v1] W fun e W' => e = .returned (.bool true) ∧ Below W.heap.size W W' := by
  obtain ⟨aw1, m1, l1, x1, hR1, hA1, hm1, hx1, hv1, hrel1⟩ := opens_arg (opn1 hd) hc1 ht1 (R.start hg) (fun b e x h hx => allRo_start hx)
  obtain ⟨v, aw', h1, rfl, h2⟩ := syntaxBlanks_law codesS formatsS parsesS joinsS extS (s := strL s0) (ks := l1) (kv := x1) (aw := aw1) (bytes s0) (ints_rd hrel1)
  refine ((callR_ok base_ok h1).2 W _ _ #[.string s0, v1] hR1 ⟨_, _, rfl, ⟨s0, rfl, rfl⟩, _, _, rfl, hv1, rfl⟩).mono ?_
  rintro e w' ⟨v', m', rfl, rfl, _, hb⟩
  exact ⟨rfl, hb.belowRo hA1⟩
theorem door_met (os : Os) (args : Array Value) : laidMetH Tryd.prog Rows.syntaxBlanksRow.laid ((World.doorLaid Tryd.prog 400 os).forCall (fun _ _ => 0) ⟨#[], args, []⟩).memory :=
  laidMetH_of_parts3 (fuel := 8) (laidMet_of_run' 8 (by kernel_rfl) (by kernel_rfl)) (by kernel_rfl) (by kernel_rfl)
set_option maxRecDepth 100000 in
theorem lifted (os : Os) (started : os.Started) (H : Type) (enc : TypeId × Value → H) :
    ReturnsInHanded {} Tryd.checked os 7 .any (fun w args => (Rows.syntaxBlanksSpec.pre enc Tryd.prog Tryd.f7 [] false w args ∧ laidMetH Tryd.prog Rows.syntaxBlanksRow.laid w) ∧ sizedMet enc Tryd.prog Tryd.f7 (OpenSpec.ofChange Rows.syntaxBlanksSpec) false w args)
      (Rows.syntaxBlanksSpec.post enc Tryd.prog Tryd.f7 false true false false) := by
  refine returns_and_shaped (C := Tryd.checked) (X := fun w _ => laidMetH Tryd.prog Rows.syntaxBlanksRow.laid w) (fun _ _ _ hh h => h.of_heap hh) own started (by kernel_rfl) Tryd.func7
    (ChangeSpec.witness_shaped (enc := enc) (C := Tryd.checked) (os := os) (X := fun w _ => laidMetH Tryd.prog Rows.syntaxBlanksRow.laid w) false (World.doorLaid Tryd.prog 400 os) #[.string ⟨#[97]⟩, .slice none 0 0] 8 rfl (World.shaped_of_RefB (by kernel_rfl) (by kernel_rfl)) (by kernel_rfl) (by kernel_rfl) (by kernel_rfl) (door_met os _)) ?_
  intro W base args ds gs before hval0 hW _ _ hL hsh _
  have hval : ∀ (j : Nat) t v, Tryd.f7.params[j]? = some t → args[j]? = some v → Value.okWide Tryd.prog W .any base t v := hval0
  have hW' := hW
  obtain ⟨p, q, hA0, hV, rfl, hfz, hnd⟩ := hW
  have hA : DataW.TrodAll enc Tryd.prog W 0 (fun _ => true) true Tryd.f7.params.toList args.toList ds p := hA0
  rw [Tryd.params7] at hA hval
  obtain ⟨v0, v1, d0, d1, p0, p1, rfl, rfl, rfl, h0, h1⟩ := trodAll_two hA
  obtain ⟨rfl, rfl⟩ := trodVars_none hV
  obtain ⟨s0, rfl, rfl, rfl, hs0⟩ := open_string Tryd.underlying9 (hval 0 9 v0 rfl rfl) h0
  obtain ⟨a1, len1, cap1, rfl⟩ := okWide_slice Tryd.underlying32 (hval 1 32 v1 rfl rfl)
  refine (walk W s0 _ rfl h1 (globs_laid hL (List.mem_filter.2 ⟨.tail _ (.tail _ (.head _)), rfl⟩)) (dum W hsh)).mono fun e W' ⟨he, hg⟩ => ?_
  subst he
  exact ⟨_, rfl, law_post (tb := 4) hW' (by kernel_rfl) (by rw [Tryd.params7]; decide +kernel) hg rfl rfl Tryd.underlying4 rfl rfl rfl⟩
theorem over : Rows.syntaxBlanksRow.holds Tryd.pinned (OpenSpec.ofChange Rows.syntaxBlanksSpec) :=
  OpenClaim.holds_of_wide 7 Tryd.f7 rfl rfl rfl rfl rfl rfl rfl ⟨rfl, rfl, rfl, rfl, rfl⟩ rfl rfl rfl rfl rfl (by kernel_rfl) Tryd.func7 (by kernel_rfl)
    (of_decide_eq_true (by kernel_rfl)) (by unfold Func.isWrapper; first | (rw [if_pos (by decide +kernel)]; kernel_rfl) | (rw [if_neg (by decide +kernel)]; exact ⟨rfl, rfl⟩))
    (fun os started H enc _ => lifted os started H enc)
theorem proved : Rows.SyntaxBlanksCardSaid :=
  Claim7.holds_tied_plain_at .later [] [.data, .data, .data, .sentinel, .sentinel] true (true, "7843a5699bda0e4c2627c6823aaf590ac9bb11861cb6c615e94caabe945d7e1d") true
    over (fun _ h => by cases h) (by kernel_rfl) (fun _ h => by cases h) syntaxBlanks_row_tie rfl ⟨rfl, rfl⟩ (by kernel_rfl) rfl
    (fun f fn hf hfn => by
      obtain rfl : f = 7 := Option.some.inj ((show Tryd.prog.funcNamed "delphi/delphilaw8.SyntaxBlanks" = some 7 by kernel_rfl).symm.trans hf) |>.symm
      obtain rfl : fn = Tryd.f7 := (Option.some.inj (Tryd.func7.symm.trans hfn)).symm
      exact ⟨by kernel_rfl, fun j t ht => by
        rw [Tryd.params7] at ht
        rcases j with _ | _ | j <;> simp at ht <;> subst ht <;> decide +kernel⟩)
    (by kernel_rfl)
#print axioms proved
end Go.Proofs.YtpbdojjfokelaaaDoor.syntaxBlanks
