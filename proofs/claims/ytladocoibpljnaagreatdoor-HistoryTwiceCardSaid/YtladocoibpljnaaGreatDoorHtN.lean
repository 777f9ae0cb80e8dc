/- A part of the proof: CHistoryTwice. -/
import Derived.Test.YtladocoibpljnaaGreatDoorHtJ
import Derived.Test.YtladocoibpljnaaGreatDoorHtK
import Derived.Test.YtladocoibpljnaaGreatDoorHtL
import Derived.Test.YtladocoibpljnaaGreatDoorHtM
import Derived.Test.YtladocoibpljnaaGreatDoorTie
import Derived.Test.YtladocoibpljnaaGreatDoorCards
import Derived.ProofKit
import Derived.LaidMore
import Derived.OpenShut
import Derived.Stop.Joined
import Derived.SevenTiedAt
import Derived.HandedShaped
set_option linter.unusedVariables false
set_option maxRecDepth 100000
set_option linter.unusedSimpArgs false
namespace Go.Proofs.YtladocoibpljnaaGreatDoor.historyTwice
open Go Go.ChangeShapes Go.WideShapes Go.ChangeAt Go.RowKit Go.AE
open Go.ChangeMaps (open_string)
theorem own : ownKnob Tryz.prog.godebug = none := by kernel_rfl
theorem out_ok (n0 : Int) (h : n0 < 1 ∨ 6 < n0) : ∃ v aw', CallR (hTab Tryz.prog).tab 5 [.int .i64 n0] AW.start v aw' ∧ v = .bool true ∧ aw' = AW.start := by
  have : WF (hTab Tryz.prog).tab 5 [.int .i64 n0] AW.start (fun v w => v = .bool true ∧ w = AW.start) := by
    refine WF_of (af := k_law26_HistoryTwice) (by kernel_rfl) rfl ?_
    refine WS_run 1000 (by simp only [go_sem, eRun_exit, Nat.reduceAdd, Nat.reduceLT, Nat.reduceEqDiff, reduceIte, reduceCtorEq, Int.reduceBEq, Int.reduceBNe, Int.reduceLT, Int.reduceLE, Int.reduceGT, Int.reduceGE, Int.reduceEq, Int.reduceAdd, Int.reduceSub, Int.reduceMul, Nat.reduceMul, Nat.reduceSub, Nat.reduceLeDiff, k_law26_HistoryTwice]; rfl) ?_
    refine WS_call (by simp only [go_sem, eRun_exit, Nat.reduceAdd, Nat.reduceLT, Nat.reduceEqDiff, reduceIte, reduceCtorEq, Int.reduceBEq, Int.reduceBNe, Int.reduceLT, Int.reduceLE, Int.reduceGT, Int.reduceGE, Int.reduceEq, Int.reduceAdd, Int.reduceSub, Int.reduceMul, Nat.reduceMul, Nat.reduceSub, Nat.reduceLeDiff]) (by simp only [go_sem, eRun_exit, Nat.reduceAdd, Nat.reduceLT, Nat.reduceEqDiff, reduceIte, reduceCtorEq, Int.reduceBEq, Int.reduceBNe, Int.reduceLT, Int.reduceLE, Int.reduceGT, Int.reduceGE, Int.reduceEq, Int.reduceAdd, Int.reduceSub, Int.reduceMul, Nat.reduceMul, Nat.reduceSub, Nat.reduceLeDiff]; rfl) ?_
    refine ⟨.bool true, AW.start, .prim (show (hTab Tryz.prog).prim 10 [] AW.start = some (.bool true, AW.start) from rfl), ?_⟩
    by_cases h1 : n0 < 1
    · refine WS_run 1000 (by simp only [go_sem, eRun_exit, Nat.reduceAdd, Nat.reduceLT, Nat.reduceEqDiff, reduceIte, reduceCtorEq, Int.reduceBEq, Int.reduceBNe, Int.reduceLT, Int.reduceLE, Int.reduceGT, Int.reduceGE, Int.reduceEq, Int.reduceAdd, Int.reduceSub, Int.reduceMul, Nat.reduceMul, Nat.reduceSub, Nat.reduceLeDiff, k_law26_HistoryTwice_p11, k_law26_HistoryTwice_p1, h1]; rfl) ?_
      refine WS_ret ⟨_, by simp only [go_sem, eRun_exit, Nat.reduceAdd, Nat.reduceLT, Nat.reduceEqDiff, reduceIte, reduceCtorEq, Int.reduceBEq, Int.reduceBNe, Int.reduceLT, Int.reduceLE, Int.reduceGT, Int.reduceGE, Int.reduceEq, Int.reduceAdd, Int.reduceSub, Int.reduceMul, Nat.reduceMul, Nat.reduceSub, Nat.reduceLeDiff, k_law26_HistoryTwice]; rfl, ?_⟩
      exact ⟨rfl, rfl⟩
    · have h2 : 6 < n0 := h.resolve_left h1
      refine WS_run 1000 (by simp only [go_sem, eRun_exit, Nat.reduceAdd, Nat.reduceLT, Nat.reduceEqDiff, reduceIte, reduceCtorEq, Int.reduceBEq, Int.reduceBNe, Int.reduceLT, Int.reduceLE, Int.reduceGT, Int.reduceGE, Int.reduceEq, Int.reduceAdd, Int.reduceSub, Int.reduceMul, Nat.reduceMul, Nat.reduceSub, Nat.reduceLeDiff, k_law26_HistoryTwice_p11, k_law26_HistoryTwice_p1, h1, h2]; rfl) ?_
      refine WS_ret ⟨_, by simp only [go_sem, eRun_exit, Nat.reduceAdd, Nat.reduceLT, Nat.reduceEqDiff, reduceIte, reduceCtorEq, Int.reduceBEq, Int.reduceBNe, Int.reduceLT, Int.reduceLE, Int.reduceGT, Int.reduceGE, Int.reduceEq, Int.reduceAdd, Int.reduceSub, Int.reduceMul, Nat.reduceMul, Nat.reduceSub, Nat.reduceLeDiff, k_law26_HistoryTwice]; rfl, ?_⟩
      exact ⟨rfl, rfl⟩
  exact this
theorem walk (W : World) (n0 : Int) : Calls Tryz.prog 5 #[.int .i64 n0] W fun e W' => e = .returned (.bool true) ∧ Below W.heap.size W W' := by
  have va : ∀ m, VRs m [V.int .i64 n0] (#[Value.int .i64 n0] : Array Value).toList := fun m => ⟨_, _, rfl, rfl, rfl⟩
  by_cases h : n0 < 1 ∨ 6 < n0
  · obtain ⟨v, aw', h1, rfl, rfl⟩ := out_ok n0 h
    refine ((callR_ok hT_ok h1).2 W _ _ _ (R.start fun i g l h => by cases h) (va _)).mono ?_
    rintro e w' ⟨v', m', rfl, rfl, _, hgo⟩
    exact ⟨rfl, hgo.below fun b e hb => by
      obtain ⟨g, l, h1, rfl⟩ := globMap_inv hb
      cases h1⟩
  · have : n0 = 1 ∨ n0 = 2 ∨ n0 = 3 ∨ n0 = 4 ∨ n0 = 5 ∨ n0 = 6 := by omega
    rcases this with rfl | rfl | rfl | rfl | rfl | rfl
    · exact closedA_ok hT_ok tw_1 W va
    · exact closedA_ok hT_ok tw_2 W va
    · exact closedA_ok hT_ok tw_3 W va
    · exact closedA_ok hT_ok tw_4 W va
    · exact closedA_ok hT_ok tw_5 W va
    · exact closedA_ok hT_ok tw_6 W va
theorem door_met (os : Os) (args : Array Value) : laidMetH Tryz.prog Rows.historyTwiceRow.laid ((World.doorLaid Tryz.prog 400 os).forCall (fun _ _ => 0) ⟨#[], args, []⟩).memory :=
  laidMetH_of_parts3 (fuel := 8) (laidMet_of_run' 8 (by kernel_rfl) (by kernel_rfl)) (by kernel_rfl) (by kernel_rfl)
set_option maxRecDepth 100000 in
theorem lifted (os : Os) (started : os.Started) (H : Type) (enc : TypeId × Value → H) :
    ReturnsInHanded {} Tryz.checked os 5 .any (fun w args => (Rows.historyTwiceSpec.pre enc Tryz.prog Tryz.f5 [] false w args ∧ laidMetH Tryz.prog Rows.historyTwiceRow.laid w) ∧ sizedMet enc Tryz.prog Tryz.f5 (OpenSpec.ofChange Rows.historyTwiceSpec) false w args)
      (Rows.historyTwiceSpec.post enc Tryz.prog Tryz.f5 false true false false) := by
  refine returns_and_shaped (C := Tryz.checked) (X := fun w _ => laidMetH Tryz.prog Rows.historyTwiceRow.laid w) (fun _ _ _ hh h => h.of_heap hh) own started (by kernel_rfl) Tryz.func5
    (ChangeSpec.witness_shaped (enc := enc) (C := Tryz.checked) (os := os) (X := fun w _ => laidMetH Tryz.prog Rows.historyTwiceRow.laid w) false (World.doorLaid Tryz.prog 400 os) #[.int .i64 1] 8 rfl (World.shaped_of_RefB (by kernel_rfl) (by kernel_rfl)) (by kernel_rfl) (by kernel_rfl) (by kernel_rfl) (door_met os _)) ?_
  intro W base args ds gs before hval0 hW _ _ hL hsh _
  have hval : ∀ (j : Nat) t v, Tryz.f5.params[j]? = some t → args[j]? = some v → Value.okWide Tryz.prog W .any base t v := hval0
  have hW' := hW
  obtain ⟨p, q, hA0, hV, rfl, hfz, hnd⟩ := hW
  have hA : DataW.TrodAll enc Tryz.prog W 0 (fun _ => true) true Tryz.f5.params.toList args.toList ds p := hA0
  rw [Tryz.params5] at hA hval
  obtain ⟨v0, vs0, d0, ds0, p0, q0, hargs, rfl, rfl, h0, hA⟩ := trodAll_cons hA
  obtain ⟨rfl, rfl, rfl⟩ := trodAll_nil hA
  obtain rfl : args = #[v0] := by cases args; simp_all
  clear hargs
  obtain ⟨rfl, rfl⟩ := trodVars_none hV
  obtain ⟨n0, rfl, rfl, rfl, hs0⟩ := open_int Tryz.underlying3 (hval 0 3 v0 rfl rfl) h0
  refine (walk W n0).mono fun e W' ⟨he, hg⟩ => ?_
  subst he
  exact ⟨_, rfl, law_post (tb := 4) hW' (by kernel_rfl) (by rw [Tryz.params5]; decide +kernel) hg rfl rfl Tryz.underlying4 rfl rfl rfl⟩
theorem over : Rows.historyTwiceRow.holds Tryz.pinned (OpenSpec.ofChange Rows.historyTwiceSpec) :=
  OpenClaim.holds_of_wide 5 Tryz.f5 rfl rfl rfl rfl rfl rfl rfl ⟨rfl, rfl, rfl, rfl, rfl⟩ rfl rfl rfl rfl rfl (by kernel_rfl) Tryz.func5 (by kernel_rfl)
    (of_decide_eq_true (by kernel_rfl)) (by unfold Func.isWrapper; first | (rw [if_pos (by decide +kernel)]; kernel_rfl) | (rw [if_neg (by decide +kernel)]; exact ⟨rfl, rfl⟩))
    (fun os started H enc _ => lifted os started H enc)
theorem proved : Rows.HistoryTwiceCardSaid :=
  Claim7.holds_tied_plain_at .later [] [.data, .data, .data, .sentinel, .sentinel] true (true, "8870b991bcfcd8666ccf9c70574bac290486ee51aebe4ef2fd1e1670fda2cf58") true
    over (fun _ h => by cases h) (by kernel_rfl) (fun _ h => by cases h) historyTwice_row_tie rfl ⟨rfl, rfl⟩ (by kernel_rfl) rfl
    (fun f fn hf hfn => by
      obtain rfl : f = 5 := Option.some.inj ((show Tryz.prog.funcNamed "delphi/delphilaw26.HistoryTwice" = some 5 by kernel_rfl).symm.trans hf) |>.symm
      obtain rfl : fn = Tryz.f5 := (Option.some.inj (Tryz.func5.symm.trans hfn)).symm
      exact ⟨by kernel_rfl, fun j t ht => by
        rw [Tryz.params5] at ht
        rcases j with _ | j <;> simp at ht <;> subst ht <;> decide +kernel⟩)
    (by kernel_rfl)
#print axioms proved
end Go.Proofs.YtladocoibpljnaaGreatDoor.historyTwice
