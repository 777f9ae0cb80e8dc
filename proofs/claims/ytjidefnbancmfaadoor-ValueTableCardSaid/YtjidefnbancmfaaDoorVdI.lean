/- A part of the proof: PVal15, VTab, VKit, VArg. -/
import Derived.Test.YtjidefnbancmfaaDoorVdH
import Derived.Test.YtjidefnbancmfaaDoorVdF
import Derived.Test.YtjidefnbancmfaaDoorVdG
import Derived.Lib.LaidTab
import Derived.Lib.AppendIntMem
import Derived.Shelf.Strconv.Itoa4
import GoSem.ClaimSeven
import Derived.HandedShaped
/- Constants: the law of the table, whole. -/
set_option linter.unusedVariables false
set_option maxRecDepth 10000
set_option linter.unusedSimpArgs false
namespace Go.Proofs.YtjidefnbancmfaaDoor
open Go.AE Delphi
variable {tab : Tab}
def VzI (aw : AW) (tb mb : Nat) (ts : List Tk) (v hv : V) (S S2 : Nat → Prop) (q : Nat) (f : Fr) (w : AW) : Prop :=
  ∃ i : Int, f.get 4 = some (.ptr tb 0) ∧ f.get 5 = some hv ∧ f.get 10 = some (.int .i64 i) ∧ VtW aw tb mb v hv S S2 ts w ∧ -1 ≤ i ∧ i ≤ Int.ofNat ts.length + 2 ∧ (q : Int) = Int.ofNat ts.length + 2 - i
theorem valueTable_law (C : Codes tab) (B : Begins tab) {lv : V} {args : List Tk} {aw : AW} (hr : Rd (fun b => b < aw.next) aw lv 3 args.length (tksC args)) (hby : ∀ t ∈ args, ∀ c ∈ t.s, c < 256) :
    WF tab n_law6_ValueTable [lv] aw (fun v w => v = .bool true ∧ Frm (fun _ => False) aw w) := by
  refine WF_of C.c_law6_ValueTable rfl ?_
  refine WS_run 1000 (by simp only [go_sem, eRun_exit, Nat.reduceAdd, Nat.reduceLT, Nat.reduceEqDiff, reduceIte, reduceCtorEq, Int.reduceBEq, Int.reduceBNe, Int.reduceLT, Int.reduceLE, Int.reduceGT, Int.reduceGE, Int.reduceEq, Int.reduceAdd, Int.reduceSub, Int.reduceMul, Nat.reduceMul, Nat.reduceSub, Nat.reduceLeDiff, k_law6_ValueTable]; rfl) ?_
  refine WS_call (by simp only [go_sem, eRun_exit, Nat.reduceAdd, Nat.reduceLT, Nat.reduceEqDiff, reduceIte, reduceCtorEq, Int.reduceBEq, Int.reduceBNe, Int.reduceLT, Int.reduceLE, Int.reduceGT, Int.reduceGE, Int.reduceEq, Int.reduceAdd, Int.reduceSub, Int.reduceMul, Nat.reduceMul, Nat.reduceSub, Nat.reduceLeDiff]) (by simp only [go_sem, eRun_exit, Nat.reduceAdd, Nat.reduceLT, Nat.reduceEqDiff, reduceIte, reduceCtorEq, Int.reduceBEq, Int.reduceBNe, Int.reduceLT, Int.reduceLE, Int.reduceGT, Int.reduceGE, Int.reduceEq, Int.reduceAdd, Int.reduceSub, Int.reduceMul, Nat.reduceMul, Nat.reduceSub, Nat.reduceLeDiff]; rfl) ?_
  refine begins_ok B ?_
  refine WS_run 1000 (by simp only [go_sem, eRun_exit, Nat.reduceAdd, Nat.reduceLT, Nat.reduceEqDiff, reduceIte, reduceCtorEq, Int.reduceBEq, Int.reduceBNe, Int.reduceLT, Int.reduceLE, Int.reduceGT, Int.reduceGE, Int.reduceEq, Int.reduceAdd, Int.reduceSub, Int.reduceMul, Nat.reduceMul, Nat.reduceSub, Nat.reduceLeDiff]; rfl) ?_
  refine WS_call (by simp only [go_sem, eRun_exit, Nat.reduceAdd, Nat.reduceLT, Nat.reduceEqDiff, reduceIte, reduceCtorEq, Int.reduceBEq, Int.reduceBNe, Int.reduceLT, Int.reduceLE, Int.reduceGT, Int.reduceGE, Int.reduceEq, Int.reduceAdd, Int.reduceSub, Int.reduceMul, Nat.reduceMul, Nat.reduceSub, Nat.reduceLeDiff]) (by simp only [go_sem, eRun_exit, Nat.reduceAdd, Nat.reduceLT, Nat.reduceEqDiff, reduceIte, reduceCtorEq, Int.reduceBEq, Int.reduceBNe, Int.reduceLT, Int.reduceLE, Int.reduceGT, Int.reduceGE, Int.reduceEq, Int.reduceAdd, Int.reduceSub, Int.reduceMul, Nat.reduceMul, Nat.reduceSub, Nat.reduceLeDiff]; rfl) ?_
  refine new_ok C fun w1 hT r1 => ?_
  refine WS_run 1000 (by simp only [go_sem, eRun_exit, Nat.reduceAdd, Nat.reduceLT, Nat.reduceEqDiff, reduceIte, reduceCtorEq, Int.reduceBEq, Int.reduceBNe, Int.reduceLT, Int.reduceLE, Int.reduceGT, Int.reduceGE, Int.reduceEq, Int.reduceAdd, Int.reduceSub, Int.reduceMul, Nat.reduceMul, Nat.reduceSub, Nat.reduceLeDiff]; rfl) ?_
  refine WS_loopJ (VtI aw (aw.next + 1) aw.next lv args.length) (fun f w => ∃ q, VtI aw (aw.next + 1) aw.next lv args.length q f w) (fun q f w hI ih out => vt_step C hr hby hI ih out) ?_ 40
    ⟨0, .nilslice, .nilslice, fun _ => False, fun _ => False, [], (by simp only [go_sem, eRun_exit, Nat.reduceAdd, Nat.reduceLT, Nat.reduceEqDiff, reduceIte, reduceCtorEq, Int.reduceBEq, Int.reduceBNe, Int.reduceLT, Int.reduceLE, Int.reduceGT, Int.reduceGE, Int.reduceEq, Int.reduceAdd, Int.reduceSub, Int.reduceMul, Nat.reduceMul, Nat.reduceSub, Nat.reduceLeDiff] <;> rfl), (by simp only [go_sem, eRun_exit, Nat.reduceAdd, Nat.reduceLT, Nat.reduceEqDiff, reduceIte, reduceCtorEq, Int.reduceBEq, Int.reduceBNe, Int.reduceLT, Int.reduceLE, Int.reduceGT, Int.reduceGE, Int.reduceEq, Int.reduceAdd, Int.reduceSub, Int.reduceMul, Nat.reduceMul, Nat.reduceSub, Nat.reduceLeDiff] <;> rfl), (by simp only [go_sem, eRun_exit, Nat.reduceAdd, Nat.reduceLT, Nat.reduceEqDiff, reduceIte, reduceCtorEq, Int.reduceBEq, Int.reduceBNe, Int.reduceLT, Int.reduceLE, Int.reduceGT, Int.reduceGE, Int.reduceEq, Int.reduceAdd, Int.reduceSub, Int.reduceMul, Nat.reduceMul, Nat.reduceSub, Nat.reduceLeDiff] <;> rfl), (by simp only [go_sem, eRun_exit, Nat.reduceAdd, Nat.reduceLT, Nat.reduceEqDiff, reduceIte, reduceCtorEq, Int.reduceBEq, Int.reduceBNe, Int.reduceLT, Int.reduceLE, Int.reduceGT, Int.reduceGE, Int.reduceEq, Int.reduceAdd, Int.reduceSub, Int.reduceMul, Nat.reduceMul, Nat.reduceSub, Nat.reduceLeDiff] <;> rfl), ⟨hT, .nil, fun _ h => h.elim, fun _ h => h.elim, by omega, by omega, r1, by simp, by simp⟩, by simp, by omega, by omega, rfl⟩
  rintro f w ⟨q, i, v, hv, S, S2, ts, f0, f4, f5, f6, hW, htl, h40, hi, hq⟩
  refine WS_run 1000 (by simp only [go_sem, eRun_exit, Nat.reduceAdd, Nat.reduceLT, Nat.reduceEqDiff, reduceIte, reduceCtorEq, Int.reduceBEq, Int.reduceBNe, Int.reduceLT, Int.reduceLE, Int.reduceGT, Int.reduceGE, Int.reduceEq, Int.reduceAdd, Int.reduceSub, Int.reduceMul, Nat.reduceMul, Nat.reduceSub, Nat.reduceLeDiff]; rfl) ?_
  refine WS_loopJ (VzI aw (aw.next + 1) aw.next ts v hv S S2) (fun f w => Frm (fun _ => False) aw w) ?_ ?_ (ts.length + 3) ⟨-1, (by simp only [go_sem, eRun_exit, Nat.reduceAdd, Nat.reduceLT, Nat.reduceEqDiff, reduceIte, reduceCtorEq, Int.reduceBEq, Int.reduceBNe, Int.reduceLT, Int.reduceLE, Int.reduceGT, Int.reduceGE, Int.reduceEq, Int.reduceAdd, Int.reduceSub, Int.reduceMul, Nat.reduceMul, Nat.reduceSub, Nat.reduceLeDiff, f4] <;> rfl), (by simp only [go_sem, eRun_exit, Nat.reduceAdd, Nat.reduceLT, Nat.reduceEqDiff, reduceIte, reduceCtorEq, Int.reduceBEq, Int.reduceBNe, Int.reduceLT, Int.reduceLE, Int.reduceGT, Int.reduceGE, Int.reduceEq, Int.reduceAdd, Int.reduceSub, Int.reduceMul, Nat.reduceMul, Nat.reduceSub, Nat.reduceLeDiff, f5] <;> rfl), (by simp only [go_sem, eRun_exit, Nat.reduceAdd, Nat.reduceLT, Nat.reduceEqDiff, reduceIte, reduceCtorEq, Int.reduceBEq, Int.reduceBNe, Int.reduceLT, Int.reduceLE, Int.reduceGT, Int.reduceGE, Int.reduceEq, Int.reduceAdd, Int.reduceSub, Int.reduceMul, Nat.reduceMul, Nat.reduceSub, Nat.reduceLeDiff] <;> rfl), hW, by omega, by show (-1 : Int) ≤ (ts.length : Int) + 2; omega, by show ((ts.length + 3 : Nat) : Int) = (ts.length : Int) + 2 - -1; omega⟩
  · rintro q' f w ⟨i, f4, f5, f10, hW, hlo, hhi, hq'⟩ ih exit
    have hlv := hW.b.lenV
    have hhi : i ≤ (ts.length : Int) + 2 := hhi
    have hq' : (q' : Int) = (ts.length : Int) + 2 - i := hq'
    have hw1 : IntKind.wrap .i64 (Int.ofNat ts.length + 1) = Int.ofNat (ts.length + 1) := wrap_succ (by omega)
    by_cases hle : i ≤ Int.ofNat (ts.length + 1)
    case neg =>
      refine WS_runB 1000 (by simp only [go_sem, Nat.reduceAdd, Nat.reduceLT, Nat.reduceEqDiff, reduceIte, reduceCtorEq, Int.reduceBEq, Int.reduceBNe, Int.reduceLT, Int.reduceLE, Int.reduceGT, Int.reduceGE, Int.reduceEq, Int.reduceAdd, Int.reduceSub, Int.reduceMul, Nat.reduceMul, Nat.reduceSub, Nat.reduceLeDiff, k_law6_ValueTable_p6, f5, f10, hlv, hw1, hle]; rfl) ?_
      exact exit _ _ _ hW.f rfl
    have hle' : i ≤ ((ts.length + 1 : Nat) : Int) := hle
    have hwr : IntKind.wrap .i64 (i + 1) = i + 1 := wrap_id (by omega) (by omega)
    refine WS_run 1000 (by simp only [go_sem, eRun_exit, Nat.reduceAdd, Nat.reduceLT, Nat.reduceEqDiff, reduceIte, reduceCtorEq, Int.reduceBEq, Int.reduceBNe, Int.reduceLT, Int.reduceLE, Int.reduceGT, Int.reduceGE, Int.reduceEq, Int.reduceAdd, Int.reduceSub, Int.reduceMul, Nat.reduceMul, Nat.reduceSub, Nat.reduceLeDiff, k_law6_ValueTable_p6, k_law6_ValueTable_p5, f4, f5, f10, hlv, hw1, hle]; rfl) ?_
    refine WS_call (by simp only [go_sem, eRun_exit, Nat.reduceAdd, Nat.reduceLT, Nat.reduceEqDiff, reduceIte, reduceCtorEq, Int.reduceBEq, Int.reduceBNe, Int.reduceLT, Int.reduceLE, Int.reduceGT, Int.reduceGE, Int.reduceEq, Int.reduceAdd, Int.reduceSub, Int.reduceMul, Nat.reduceMul, Nat.reduceSub, Nat.reduceLeDiff]) (by simp only [go_sem, eRun_exit, Nat.reduceAdd, Nat.reduceLT, Nat.reduceEqDiff, reduceIte, reduceCtorEq, Int.reduceBEq, Int.reduceBNe, Int.reduceLT, Int.reduceLE, Int.reduceGT, Int.reduceGE, Int.reduceEq, Int.reduceAdd, Int.reduceSub, Int.reduceMul, Nat.reduceMul, Nat.reduceSub, Nat.reduceLeDiff]; rfl) ?_
    refine term_ok C hW.t (by omega) ⟨by omega, by omega⟩ fun w2 t g2 hin hout => ?_
    obtain ⟨w3, s3, c3, g3, n3⟩ := boxed w2 (zs := [V.int .i64 0, V.str [], V.int .i64 0]) (vs := tkC t) rfl rfl
    have k3 := c3.all (n := 3) rfl
    have k0 := CB.ld c3 0 1 [.int .i64 t.k] rfl
    have hW3 := (hW.step g2).step g3
    by_cases h1 : i ≥ 1
    · by_cases h2 : i ≤ Int.ofNat ts.length
      · have h2' : i ≤ (ts.length : Int) := h2
        obtain ⟨k, rfl⟩ : ∃ k : Nat, i = Int.ofNat (k + 1) := ⟨i.toNat - 1, by show _ = ((i.toNat - 1 + 1 : Nat) : Int); omega⟩
        have hk : k < ts.length := by have : ((k + 1 : Nat) : Int) ≤ (ts.length : Int) := h2; omega
        have ht := hin k rfl hk
        obtain ⟨b, o, cc, rfl, hTb, hbl, a3⟩ := tks_at hW3.b.rd ht
        have hwm : IntKind.wrap .i64 (Int.ofNat (k + 1) - 1) = Int.ofNat k := by
          rw [show Int.ofNat (k + 1) - 1 = Int.ofNat k by show ((k + 1 : Nat) : Int) - 1 = (k : Int); omega]
          exact wrap_id (by show (-9223372036854775808 : Int) ≤ (k : Int); omega) (by show (k : Int) ≤ _; omega)
        refine WS_run 1000 (by simp only [go_sem, eRun_exit, Nat.reduceAdd, Nat.reduceLT, Nat.reduceEqDiff, reduceIte, reduceCtorEq, Int.reduceBEq, Int.reduceBNe, Int.reduceLT, Int.reduceLE, Int.reduceGT, Int.reduceGE, Int.reduceEq, Int.reduceAdd, Int.reduceSub, Int.reduceMul, Nat.reduceMul, Nat.reduceSub, Nat.reduceLeDiff, s3, tkC_len, k3, f5, f10, hlv, h1, h2, hwm, hk, a3]; rfl) ?_
        refine WS_call (by simp only [go_sem, eRun_exit, Nat.reduceAdd, Nat.reduceLT, Nat.reduceEqDiff, reduceIte, reduceCtorEq, Int.reduceBEq, Int.reduceBNe, Int.reduceLT, Int.reduceLE, Int.reduceGT, Int.reduceGE, Int.reduceEq, Int.reduceAdd, Int.reduceSub, Int.reduceMul, Nat.reduceMul, Nat.reduceSub, Nat.reduceLeDiff]) (by simp only [go_sem, eRun_exit, Nat.reduceAdd, Nat.reduceLT, Nat.reduceEqDiff, reduceIte, reduceCtorEq, Int.reduceBEq, Int.reduceBNe, Int.reduceLT, Int.reduceLE, Int.reduceGT, Int.reduceGE, Int.reduceEq, Int.reduceAdd, Int.reduceSub, Int.reduceMul, Nat.reduceMul, Nat.reduceSub, Nat.reduceLeDiff]; rfl) ?_
        refine rEq_ok C fun w4 g4 => ?_
        rw [tkSame_eq, decide_eq_true rfl]
        have hn1 : ¬ (Int.ofNat (k + 1) < 1) := by show ¬ (((k + 1 : Nat) : Int) < 1); omega
        have hn2 : ¬ (Int.ofNat (k + 1) > Int.ofNat ts.length) := by show ¬ (((k + 1 : Nat) : Int) > (ts.length : Int)); omega
        refine WS_run 1000 (by simp only [go_sem, eRun_exit, Nat.reduceAdd, Nat.reduceLT, Nat.reduceEqDiff, reduceIte, reduceCtorEq, Int.reduceBEq, Int.reduceBNe, Int.reduceLT, Int.reduceLE, Int.reduceGT, Int.reduceGE, Int.reduceEq, Int.reduceAdd, Int.reduceSub, Int.reduceMul, Nat.reduceMul, Nat.reduceSub, Nat.reduceLeDiff, f5, f10, hlv, hn1, hn2, hwr]; rfl) ?_
        refine ih (q' - 1) _ _ (by omega) ⟨Int.ofNat (k + 1) + 1, (by simp only [go_sem, eRun_exit, Nat.reduceAdd, Nat.reduceLT, Nat.reduceEqDiff, reduceIte, reduceCtorEq, Int.reduceBEq, Int.reduceBNe, Int.reduceLT, Int.reduceLE, Int.reduceGT, Int.reduceGE, Int.reduceEq, Int.reduceAdd, Int.reduceSub, Int.reduceMul, Nat.reduceMul, Nat.reduceSub, Nat.reduceLeDiff, f4] <;> rfl), (by simp only [go_sem, eRun_exit, Nat.reduceAdd, Nat.reduceLT, Nat.reduceEqDiff, reduceIte, reduceCtorEq, Int.reduceBEq, Int.reduceBNe, Int.reduceLT, Int.reduceLE, Int.reduceGT, Int.reduceGE, Int.reduceEq, Int.reduceAdd, Int.reduceSub, Int.reduceMul, Nat.reduceMul, Nat.reduceSub, Nat.reduceLeDiff, f5] <;> rfl), (by simp only [go_sem, eRun_exit, Nat.reduceAdd, Nat.reduceLT, Nat.reduceEqDiff, reduceIte, reduceCtorEq, Int.reduceBEq, Int.reduceBNe, Int.reduceLT, Int.reduceLE, Int.reduceGT, Int.reduceGE, Int.reduceEq, Int.reduceAdd, Int.reduceSub, Int.reduceMul, Nat.reduceMul, Nat.reduceSub, Nat.reduceLeDiff] <;> rfl), hW3.step g4, ?_, ?_, ?_⟩
        · show (-1 : Int) ≤ ((k + 1 : Nat) : Int) + 1; omega
        · show ((k + 1 : Nat) : Int) + 1 ≤ (ts.length : Int) + 2; omega
        · show ((q' - 1 : Nat) : Int) = (ts.length : Int) + 2 - (((k + 1 : Nat) : Int) + 1)
          have hq' : (q' : Int) = (ts.length : Int) + 2 - ((k + 1 : Nat) : Int) := hq'
          omega
      · have hn1 : ¬ i < 1 := by omega
        have h2b : i > Int.ofNat ts.length := by show i > (ts.length : Int); have : ¬ i ≤ (ts.length : Int) := h2; omega
        have hz := hout (.inr h2b)
        subst hz
        have k0 : w3.load w2.next 0 1 = some [.int .i64 0] := k0
        refine WS_run 1000 (by simp only [go_sem, eRun_exit, Nat.reduceAdd, Nat.reduceLT, Nat.reduceEqDiff, reduceIte, reduceCtorEq, Int.reduceBEq, Int.reduceBNe, Int.reduceLT, Int.reduceLE, Int.reduceGT, Int.reduceGE, Int.reduceEq, Int.reduceAdd, Int.reduceSub, Int.reduceMul, Nat.reduceMul, Nat.reduceSub, Nat.reduceLeDiff, s3, tkC_len, k3, f5, f10, hlv, h1, h2, hn1, h2b, k0, hwr]; rfl) ?_
        exact ih (q' - 1) _ _ (by omega) ⟨i + 1, (by simp only [go_sem, eRun_exit, Nat.reduceAdd, Nat.reduceLT, Nat.reduceEqDiff, reduceIte, reduceCtorEq, Int.reduceBEq, Int.reduceBNe, Int.reduceLT, Int.reduceLE, Int.reduceGT, Int.reduceGE, Int.reduceEq, Int.reduceAdd, Int.reduceSub, Int.reduceMul, Nat.reduceMul, Nat.reduceSub, Nat.reduceLeDiff, f4] <;> rfl), (by simp only [go_sem, eRun_exit, Nat.reduceAdd, Nat.reduceLT, Nat.reduceEqDiff, reduceIte, reduceCtorEq, Int.reduceBEq, Int.reduceBNe, Int.reduceLT, Int.reduceLE, Int.reduceGT, Int.reduceGE, Int.reduceEq, Int.reduceAdd, Int.reduceSub, Int.reduceMul, Nat.reduceMul, Nat.reduceSub, Nat.reduceLeDiff, f5] <;> rfl), (by simp only [go_sem, eRun_exit, Nat.reduceAdd, Nat.reduceLT, Nat.reduceEqDiff, reduceIte, reduceCtorEq, Int.reduceBEq, Int.reduceBNe, Int.reduceLT, Int.reduceLE, Int.reduceGT, Int.reduceGE, Int.reduceEq, Int.reduceAdd, Int.reduceSub, Int.reduceMul, Nat.reduceMul, Nat.reduceSub, Nat.reduceLeDiff] <;> rfl), hW3, by omega, by show i + 1 ≤ (ts.length : Int) + 2; omega, by show ((q' - 1 : Nat) : Int) = (ts.length : Int) + 2 - (i + 1); omega⟩
    · have hn1 : i < 1 := by omega
      have hz := hout (.inl hn1)
      subst hz
      have k0 : w3.load w2.next 0 1 = some [.int .i64 0] := k0
      refine WS_run 1000 (by simp only [go_sem, eRun_exit, Nat.reduceAdd, Nat.reduceLT, Nat.reduceEqDiff, reduceIte, reduceCtorEq, Int.reduceBEq, Int.reduceBNe, Int.reduceLT, Int.reduceLE, Int.reduceGT, Int.reduceGE, Int.reduceEq, Int.reduceAdd, Int.reduceSub, Int.reduceMul, Nat.reduceMul, Nat.reduceSub, Nat.reduceLeDiff, s3, tkC_len, k3, f5, f10, hlv, h1, hn1, k0, hwr]; rfl) ?_
      exact ih (q' - 1) _ _ (by omega) ⟨i + 1, (by simp only [go_sem, eRun_exit, Nat.reduceAdd, Nat.reduceLT, Nat.reduceEqDiff, reduceIte, reduceCtorEq, Int.reduceBEq, Int.reduceBNe, Int.reduceLT, Int.reduceLE, Int.reduceGT, Int.reduceGE, Int.reduceEq, Int.reduceAdd, Int.reduceSub, Int.reduceMul, Nat.reduceMul, Nat.reduceSub, Nat.reduceLeDiff, f4] <;> rfl), (by simp only [go_sem, eRun_exit, Nat.reduceAdd, Nat.reduceLT, Nat.reduceEqDiff, reduceIte, reduceCtorEq, Int.reduceBEq, Int.reduceBNe, Int.reduceLT, Int.reduceLE, Int.reduceGT, Int.reduceGE, Int.reduceEq, Int.reduceAdd, Int.reduceSub, Int.reduceMul, Nat.reduceMul, Nat.reduceSub, Nat.reduceLeDiff, f5] <;> rfl), (by simp only [go_sem, eRun_exit, Nat.reduceAdd, Nat.reduceLT, Nat.reduceEqDiff, reduceIte, reduceCtorEq, Int.reduceBEq, Int.reduceBNe, Int.reduceLT, Int.reduceLE, Int.reduceGT, Int.reduceGE, Int.reduceEq, Int.reduceAdd, Int.reduceSub, Int.reduceMul, Nat.reduceMul, Nat.reduceSub, Nat.reduceLeDiff] <;> rfl), hW3, by omega, by show i + 1 ≤ (ts.length : Int) + 2; omega, by show ((q' - 1 : Nat) : Int) = (ts.length : Int) + 2 - (i + 1); omega⟩
  · rintro f w hf
    have hov : over [V.int .i64 0, V.str [], V.int .i64 0] 0 [V.int .i64 3] = some [V.int .i64 3, V.str [], V.int .i64 0] := rfl
    refine WS_run 1000 (by simp only [go_sem, eRun_exit, Nat.reduceAdd, Nat.reduceLT, Nat.reduceEqDiff, reduceIte, reduceCtorEq, Int.reduceBEq, Int.reduceBNe, Int.reduceLT, Int.reduceLE, Int.reduceGT, Int.reduceGE, Int.reduceEq, Int.reduceAdd, Int.reduceSub, Int.reduceMul, Nat.reduceMul, Nat.reduceSub, Nat.reduceLeDiff, evParts, fillV, hov, takeN, List.drop_zero]; rfl) ?_
    refine WS_call (by simp only [go_sem, eRun_exit, Nat.reduceAdd, Nat.reduceLT, Nat.reduceEqDiff, reduceIte, reduceCtorEq, Int.reduceBEq, Int.reduceBNe, Int.reduceLT, Int.reduceLE, Int.reduceGT, Int.reduceGE, Int.reduceEq, Int.reduceAdd, Int.reduceSub, Int.reduceMul, Nat.reduceMul, Nat.reduceSub, Nat.reduceLeDiff]) (by simp only [go_sem, eRun_exit, Nat.reduceAdd, Nat.reduceLT, Nat.reduceEqDiff, reduceIte, reduceCtorEq, Int.reduceBEq, Int.reduceBNe, Int.reduceLT, Int.reduceLE, Int.reduceGT, Int.reduceGE, Int.reduceEq, Int.reduceAdd, Int.reduceSub, Int.reduceMul, Nat.reduceMul, Nat.reduceSub, Nat.reduceLeDiff]; rfl) ?_
    refine idNil_ok C (c := ⟨3, [], 0⟩) fun w2 g2 => ?_
    refine WS_run 1000 (by simp only [go_sem, eRun_exit, Nat.reduceAdd, Nat.reduceLT, Nat.reduceEqDiff, reduceIte, reduceCtorEq, Int.reduceBEq, Int.reduceBNe, Int.reduceLT, Int.reduceLE, Int.reduceGT, Int.reduceGE, Int.reduceEq, Int.reduceAdd, Int.reduceSub, Int.reduceMul, Nat.reduceMul, Nat.reduceSub, Nat.reduceLeDiff]; rfl) ?_
    refine WS_call (by simp only [go_sem, eRun_exit, Nat.reduceAdd, Nat.reduceLT, Nat.reduceEqDiff, reduceIte, reduceCtorEq, Int.reduceBEq, Int.reduceBNe, Int.reduceLT, Int.reduceLE, Int.reduceGT, Int.reduceGE, Int.reduceEq, Int.reduceAdd, Int.reduceSub, Int.reduceMul, Nat.reduceMul, Nat.reduceSub, Nat.reduceLeDiff]) (by simp only [go_sem, eRun_exit, Nat.reduceAdd, Nat.reduceLT, Nat.reduceEqDiff, reduceIte, reduceCtorEq, Int.reduceBEq, Int.reduceBNe, Int.reduceLT, Int.reduceLE, Int.reduceGT, Int.reduceGE, Int.reduceEq, Int.reduceAdd, Int.reduceSub, Int.reduceMul, Nat.reduceMul, Nat.reduceSub, Nat.reduceLeDiff]; rfl) ?_
    refine lenNil_ok C ?_
    refine WS_run 1000 (by simp only [go_sem, eRun_exit, Nat.reduceAdd, Nat.reduceLT, Nat.reduceEqDiff, reduceIte, reduceCtorEq, Int.reduceBEq, Int.reduceBNe, Int.reduceLT, Int.reduceLE, Int.reduceGT, Int.reduceGE, Int.reduceEq, Int.reduceAdd, Int.reduceSub, Int.reduceMul, Nat.reduceMul, Nat.reduceSub, Nat.reduceLeDiff]; rfl) ?_
    refine WS_ret ⟨_, by simp only [go_sem, eRun_exit, Nat.reduceAdd, Nat.reduceLT, Nat.reduceEqDiff, reduceIte, reduceCtorEq, Int.reduceBEq, Int.reduceBNe, Int.reduceLT, Int.reduceLE, Int.reduceGT, Int.reduceGE, Int.reduceEq, Int.reduceAdd, Int.reduceSub, Int.reduceMul, Nat.reduceMul, Nat.reduceSub, Nat.reduceLeDiff, k_law6_ValueTable]; rfl, ?_⟩
    exact ⟨rfl, hf.tr g2⟩
end Go.Proofs.YtjidefnbancmfaaDoor

/- The seat's table: what strconv.FormatInt does, and the law's beginning, carried out. -/
set_option linter.unusedVariables false
set_option maxRecDepth 100000
namespace Go.Proofs.YtjidefnbancmfaaDoor
open Go.AE Go.RowKit Go.Shelf
def zFormat_ren : Go.Shelf.Ren := ⟨fun | 173 => 27 | 246 => 29 | 283 => 30 | 284 => 31 | 285 => 32 | 286 => 33 | 129 => 35 | 317 => 34 | 318 => 36 | 319 => 37 | 320 => 38 | 337 => 39 | 338 => 40 | n => n, fun | 2 => 2 | 3 => 3 | 9 => 9 | 4 => 4 | 171 => 52 | 0 => 0 | 53 => 53 | 37 => 50 | 5 => 5 | 173 => 56 | 212 => 60 | 51 => 61 | 20 => 20 | 213 => 62 | 46 => 64 | 232 => 67 | 233 => 68 | n => n, fun | 17 => 0 | 18 => 1 | 19 => 2 | n => n⟩
theorem zFormat : Go.Proofs.LaysM.n173 Tryd.prog zFormat_ren where
  mixed := by kernel_rfl
  f129 := Tryd.func35.trans (congrArg some (by kernel_rfl))
  f173 := Tryd.func27.trans (congrArg some (by kernel_rfl))
  f246 := Tryd.func29.trans (congrArg some (by kernel_rfl))
  f283 := Tryd.func30.trans (congrArg some (by kernel_rfl))
  f284 := Tryd.func31.trans (congrArg some (by kernel_rfl))
  f285 := Tryd.func32.trans (congrArg some (by kernel_rfl))
  f286 := Tryd.func33.trans (congrArg some (by kernel_rfl))
  f317 := Tryd.func34.trans (congrArg some (by kernel_rfl))
  f318 := Tryd.func36.trans (congrArg some (by kernel_rfl))
  f319 := Tryd.func37.trans (congrArg some (by kernel_rfl))
  f320 := Tryd.func38.trans (congrArg some (by kernel_rfl))
  f337 := Tryd.func39.trans (congrArg some (by kernel_rfl))
  f338 := Tryd.func40.trans (congrArg some (by kernel_rfl))
  t0 := Tryd.underlying0
  a0 := Tryd.isAgg0
  z0 := Tryd.sizeOf0
  v0 := Tryd.zeroValue0
  t2 := Tryd.underlying2
  a2 := Tryd.isAgg2
  z2 := Tryd.sizeOf2
  v2 := Tryd.zeroValue2
  t3 := Tryd.underlying3
  a3 := Tryd.isAgg3
  z3 := Tryd.sizeOf3
  v3 := Tryd.zeroValue3
  t4 := Tryd.underlying4
  a4 := Tryd.isAgg4
  z4 := Tryd.sizeOf4
  v4 := Tryd.zeroValue4
  t5 := Tryd.underlying5
  a5 := Tryd.isAgg5
  z5 := Tryd.sizeOf5
  v5 := Tryd.zeroValue5
  t9 := Tryd.underlying9
  a9 := Tryd.isAgg9
  z9 := Tryd.sizeOf9
  v9 := Tryd.zeroValue9
  t20 := Tryd.underlying20
  a20 := Tryd.isAgg20
  z20 := Tryd.sizeOf20
  v20 := Tryd.zeroValue20
  t37 := Tryd.underlying50
  a37 := Tryd.isAgg50
  z37 := Tryd.sizeOf50
  v37 := Tryd.zeroValue50
  t46 := Tryd.underlying64
  a46 := Tryd.isAgg64
  z46 := Tryd.sizeOf64
  v46 := Tryd.zeroValue64
  t51 := Tryd.underlying61
  a51 := Tryd.isAgg61
  z51 := Tryd.sizeOf61
  v51 := Tryd.zeroValue61
  t53 := Tryd.underlying53
  a53 := Tryd.isAgg53
  z53 := Tryd.sizeOf53
  v53 := Tryd.zeroValue53
  t171 := Tryd.underlying52
  a171 := Tryd.isAgg52
  z171 := Tryd.sizeOf52
  v171 := Tryd.zeroValue52
  t173 := Tryd.underlying56
  a173 := Tryd.isAgg56
  z173 := Tryd.sizeOf56
  v173 := Tryd.zeroValue56
  t212 := Tryd.underlying60
  a212 := Tryd.isAgg60
  z212 := Tryd.sizeOf60
  v212 := Tryd.zeroValue60
  t213 := Tryd.underlying62
  a213 := Tryd.isAgg62
  z213 := Tryd.sizeOf62
  t232 := Tryd.underlying67
  a232 := Tryd.isAgg67
  z232 := Tryd.sizeOf67
  v232 := Tryd.zeroValue67
  t233 := Tryd.underlying68
  a233 := Tryd.isAgg68
  z233 := Tryd.sizeOf68
  v233 := Tryd.zeroValue68
  g17 := by kernel_rfl
  g18 := by kernel_rfl
  g19 := by kernel_rfl
  i0 := by kernel_rfl
  i2 := by kernel_rfl
  i3 := by kernel_rfl
  i4 := by kernel_rfl
  i5 := by kernel_rfl
  i9 := by kernel_rfl
  i20 := by kernel_rfl
  i37 := by kernel_rfl
  i46 := by kernel_rfl
  i51 := by kernel_rfl
  i53 := by kernel_rfl
  i171 := by kernel_rfl
  i173 := by kernel_rfl
  i212 := by kernel_rfl
  i232 := by kernel_rfl
  i233 := by kernel_rfl
  m17 := by kernel_rfl
  m18 := by kernel_rfl
  m19 := by kernel_rfl
theorem var_at {w : World} {l : List Value} : (∃ t fz, w.heap[0]? = some (.cells l.toArray t fz)) ↔ w.var? Tryd.prog "internal/strconv.uint64pow10" = some l.toArray := by
  have hg : Tryd.prog.globalNamed "internal/strconv.uint64pow10" = some 0 := by kernel_rfl
  unfold World.var?
  rw [hg]
  constructor
  · rintro ⟨t, fz, h⟩
    simp [h]
  · intro h
    simp only [Option.bind_some] at h
    split at h
    · rename_i cs t fz hh
      cases h
      exact ⟨t, fz, hh⟩
    · cases h
theorem formats : FormatsAt Tryd.prog 27 0 := by
  intro n w h0 h1 hh
  have htab : Lib.TabIs Tryd.prog w "internal/strconv.uint64pow10" .u64 Lib.pow10Tab := by
    unfold Lib.TabIs
    exact var_at.1 hh
  refine (Any.strconv_FormatInt_10 zFormat n h0 h1 w htab).mono ?_
  rintro e w' ⟨rfl, k, os, rfl⟩
  exact ⟨rfl, Lib.below_grow _ _ (Nat.le_refl _) k os⟩
def baseT (P : Program) : XTab where
  code := (XTab.of P).code
  prim f args aw := match f with
    | 27 => formatI args aw
    | _ => Option.none
  ext f args aw := Option.none
theorem base_ok : TabOK Tryd.prog (baseT Tryd.prog).tab where
  mixed := by kernel_rfl
  code := (XTab.of_ok (P := Tryd.prog) (by kernel_rfl)).code
  prim f args aw v aw' h := by
    simp only [XTab.tab, baseT] at h
    split at h
    · exact ⟨⟨_, Tryd.func27, by kernel_rfl, by decide +kernel⟩, fun w m base args' hR hargs => formatI_ok formats rfl h w m base args' hR hargs⟩
    · cases h
  ext f args aw v aw' h := by cases h
theorem run7 : isTrue (xCall (baseT Tryd.prog) (xRunK (baseT Tryd.prog) 100000) 7 [] AW.start) = true := by kernel_rfl
end Go.Proofs.YtjidefnbancmfaaDoor

/- The seat's table with the law's beginning; the variable that is listed. -/
set_option linter.unusedVariables false
namespace Go.Proofs.YtjidefnbancmfaaDoor
open Go.AE Go.RowKit
theorem vrs_ints {m : Map} : ∀ {l : List V}, (∀ x ∈ l, ∃ k n, x = .int k n) → VRs m l (l.map toValI)
  | [], _ => rfl
  | x :: l, h => by
    obtain ⟨k, n, rfl⟩ := h x (by simp)
    exact ⟨_, _, rfl, rfl, vrs_ints fun y hy => h y (by simp [hy])⟩
theorem pow_ints : ∀ x ∈ pow10V, ∃ k n, x = .int k n := by
  intro x hx
  simp only [pow10V, List.mem_cons, List.not_mem_nil, or_false] at hx
  rcases hx with rfl | rfl | rfl | rfl | rfl | rfl | rfl | rfl | rfl | rfl | rfl | rfl | rfl | rfl | rfl | rfl | rfl | rfl | rfl | rfl <;> exact ⟨_, _, rfl⟩
theorem globs_one {w : World} (h : ∃ t fz, w.heap[0]? = some (.cells (pow10V.map toValI).toArray t fz)) : GlobsAre w := by
  intro i g l hi
  obtain ⟨t, fz, h⟩ := h
  cases i with
  | zero =>
    cases hi
    exact ⟨_, t, fz, h, vrs_ints pow_ints⟩
  | succ i => cases hi
theorem globs_of {aw : AW} {w : World} {m : Map} {base : Nat} (hR : R aw w m base) : GlobsAre w := by
  refine globs_one ?_
  have hg : Globs.gl[0]? = some (0, pow10V) := rfl
  obtain ⟨cur, t, lo, hi, p1, p2, p3, p4, p5⟩ := hR.blk 0 _ _ (hR.glob 0 0 _ hg) (hR.gblk 0 0 _ hg) rfl
  have hcur : cur.toList = pow10V.map toValI := by
    refine ints_are (m := m) pow_ints (by rw [Array.length_toList]; exact p2) (fun i x hx => ?_)
    obtain ⟨y, q1, q2⟩ := p5 i x hx
    exact ⟨y, by simpa using q1, q2⟩
  exact ⟨t, (lo, hi), by rw [p1, ← hcur]⟩
theorem begun_good (aw : AW) : GoodC Tryd.prog 7 [] aw (.bool true) aw := by
  refine ⟨⟨_, Tryd.func7, by kernel_rfl, by decide +kernel⟩, fun w m base args' hR hargs => ?_⟩
  have hz : args' = #[] := by cases args'; cases hargs; rfl
  subst hz
  refine (closed_ok base_ok (runK_true run7) w (globs_of hR)).mono ?_
  rintro e w' ⟨rfl, hb⟩
  obtain ⟨h1, h2⟩ := hR.below hb
  exact ⟨.bool true, m, rfl, rfl, h1, h2⟩
def tabV (P : Program) : Tab where
  code := (XTab.of P).code
  prim f args aw v aw' := (baseT P).tab.prim f args aw v aw' ∨ (f = 7 ∧ args = [] ∧ v = .bool true ∧ aw' = aw)
  ext := (baseT P).tab.ext
theorem tabV_ok : TabOK Tryd.prog (tabV Tryd.prog) where
  mixed := base_ok.mixed
  code := base_ok.code
  prim f args aw v aw' h := by
    rcases h with h | ⟨rfl, rfl, rfl, rfl⟩
    · exact base_ok.prim f args aw v aw' h
    · exact begun_good _
  ext := base_ok.ext
theorem codesV : Codes (tabV Tryd.prog) := codesOf rfl
theorem beginsV : Begins (tabV Tryd.prog) := fun aw => .prim (.inr ⟨rfl, rfl, rfl, rfl⟩)
theorem allRo_start {b : Nat} {x : Blk} (h : AW.start.heap.get b = some x) : ∃ l, x = .cells l .ro := by
  obtain ⟨_, _, l, _, _, h3⟩ := gblocks_get (k := 0) h
  exact ⟨l, h3⟩
theorem globs_laid {w : World} {l : List (String × DataW Unit)} (hf : (l.filter fun x => x.2.handleName?.isSome) = []) (hl : laidMetH Tryd.prog l w)
    (hm : ("internal/strconv.uint64pow10", Lib.tabData .u64 Lib.pow10Tab) ∈ l) : GlobsAre w := by
  unfold laidMetH at hl
  rw [hf] at hl
  obtain ⟨ps, hv, _⟩ := hl
  have go : ∀ {l : List (String × DataW Unit)} {ps : List MemPlace}, DataW.LaidVars Tryd.prog w l ps → ("internal/strconv.uint64pow10", Lib.tabData .u64 Lib.pow10Tab) ∈ l → GlobsAre w := by
    intro l
    induction l with
    | nil => intro ps _ h; cases h
    | cons x l ih =>
      intro ps h hm
      obtain ⟨n, d⟩ := x
      obtain ⟨g, t, cs, fuel, p, q, h1, h2, h3, h4, h5, _⟩ := h
      rcases List.mem_cons.1 hm with e | e
      · cases e
        have hg : Tryd.prog.globalNamed "internal/strconv.uint64pow10" = some 0 := by kernel_rfl
        rw [hg] at h1
        cases h1
        have ht : (Tryd.prog.globals[0]?).map (·.type) = some 60 := by kernel_rfl
        rw [ht] at h2
        cases h2
        have := Lib.cells_of_tab Tryd.underlying60 Tryd.underlying53 (by kernel_rfl) (by kernel_rfl) h4
        refine globs_one ?_
        have hx := (var_at (l := cs.toList)).2 (by simpa using h3)
        rw [this] at hx
        exact hx
      · exact ih h5 e
  exact go hv hm
end Go.Proofs.YtjidefnbancmfaaDoor

/- Terms and lists of terms, as they are handed. -/
set_option linter.unusedVariables false
namespace Go.Proofs.YtjidefnbancmfaaDoor
open Go.AE Go.RowKit Delphi
abbrev TP : Type := Int × List Nat × Int × Unit
def TermR (aw : AW) (p : TP) (xs : List V) : Prop := ∃ x1 x2, xs = x1 ++ x2 ∧ (x1 = [.int .i64 p.1] ∧ (Lit.int .i64 p.1).wf = true) ∧ ∃ x3 x4, x2 = x3 ++ x4 ∧ (x3 = [.str p.2.1] ∧ (∀ c ∈ p.2.1, c < 256) ∧ p.2.1.length ≤ maxLen) ∧ ∃ x5 x6, x4 = x5 ++ x6 ∧ (x5 = [.int .i64 p.2.2.1] ∧ (Lit.int .i64 p.2.2.1).wf = true) ∧ x6 = []
theorem opnT {H : Type} {enc : TypeId × Value → H} {W : World} : Opens enc Tryd.prog W 27 TP TermR :=
  opens_struct Tryd.underlying27 rfl (by kernel_rfl) (opensF_cons (k := 1) (opens_int Tryd.underlying3 (by kernel_rfl)) (by kernel_rfl) rfl (opensF_cons (k := 1) (opens_str Tryd.underlying9 (by kernel_rfl)) (by kernel_rfl) rfl (opensF_cons (k := 1) (opens_int Tryd.underlying2 (by kernel_rfl)) (by kernel_rfl) rfl opensF_nil)))
def toTk (p : TP) : Tk := ⟨p.1, p.2.1, p.2.2.1⟩
theorem termR_c {aw : AW} {p : TP} {xs : List V} (h : TermR aw p xs) : xs = tkC (toTk p) ∧ ∀ c ∈ (toTk p).s, c < 256 := by
  obtain ⟨x1, x2, rfl, ⟨rfl, _⟩, x3, x4, rfl, ⟨rfl, hb, _⟩, x5, x6, rfl, ⟨rfl, _⟩, rfl⟩ := h
  exact ⟨rfl, hb⟩
theorem terms_c {aw : AW} : ∀ {l : List TP} {xss : List (List V)}, All2 (TermR aw) l xss → xss.flatten = tksC (l.map toTk) ∧ ∀ t ∈ l.map toTk, ∀ c ∈ t.s, c < 256
  | [], _, .nil => ⟨rfl, by simp⟩
  | p :: l, _, .cons h1 h => by
    obtain ⟨g1, g2⟩ := terms_c h
    obtain ⟨g3, g4⟩ := termR_c h1
    refine ⟨?_, ?_⟩
    · rw [List.flatten_cons, g1, g3]; rfl
    · intro t ht
      rcases List.mem_cons.1 (by simpa using ht : t ∈ toTk p :: l.map toTk) with rfl | h
      · exact g4
      · exact g2 t h
theorem capfit {n esz : Nat} {c : Cap} (h : CapOk n c) : CapFit esz n c := by
  cases c with
  | known k => exact h
  | upTo z => exact .inr h
theorem terms_rd {aw : AW} {l : List TP} {x : V} (h : SliceR TermR aw l [x]) : Rd (fun b => b < aw.next) aw x 3 (l.map toTk).length (tksC (l.map toTk)) ∧ (∀ t ∈ l.map toTk, ∀ c ∈ t.s, c < 256) ∧ l.length ≤ maxLen := by
  rw [List.length_map]
  rcases h with ⟨h1, rfl⟩ | ⟨b, c, xss, h1, hb, hg, ha, hl, hc⟩
  · cases h1; exact ⟨.nil, by simp, Nat.zero_le _⟩
  · cases h1
    obtain ⟨g1, g2⟩ := terms_c ha
    have hz : (tksC (l.map toTk)).length = l.length * 3 := by rw [tksC_len, List.length_map]
    rw [g1] at hg
    exact ⟨.blk hb hb hg (.inr (.inr (.inl rfl))) (by omega) (by rw [List.drop_zero, List.take_of_length_le (by omega)]) (capfit hc), g2, hl⟩
theorem dum_of {w : World} (h : GlobsAre w) : ∃ cur ty lo hi, w.heap[0]? = some (.cells cur ty (lo, hi)) := by
  obtain ⟨cur, t, fz, h1, _⟩ := h 0 0 _ rfl
  exact ⟨cur, t, fz.1, fz.2, h1⟩
end Go.Proofs.YtjidefnbancmfaaDoor
