/- A part of the proof: PChk13, PChk14, YtjidefnbancmfaaIns, T1, B13. -/
import Derived.Test.YtjidefnbancmfaaKrN
import Derived.Test.YtjidefnbancmfaaKrI
import Derived.Test.YtjidefnbancmfaaRows
import Derived.Shelf.Spec.SlicesInsertGrow
import Derived.Test.YtjidefnbancmfaaKrG
import Derived.Test.YtjidefnbancmfaaKrH
/- CheckRules: the law. -/
set_option linter.unusedVariables false
set_option maxRecDepth 10000
set_option linter.unusedSimpArgs false
namespace Go.Proofs.Ytjidefnbancmfaa
open Go.AE Delphi
variable {tab : Tab}
theorem tk1 {l : List V} {i : Nat} {x : V} (h : l[i]? = some x) : (l.drop i).take 1 = [x] := by rw [drop_cons_of h]; rfl
theorem rls_eq {T : Nat → Prop} {a w w2 : AW} {b o : Nat} {c : Cap} {n : Nat} {l : List Rl} {xs xs2 : List V} (h : RdL (RlC T) T a (.slice b o n c) 4 l) (hf : Frm (fun _ => False) a w) (hf2 : Frm (fun _ => False) a w2) {i : Nat} (hi : i < l.length) (e1 : w.load b (o + i * 4) 4 = some xs) (e2 : w2.load b (o + i * 4) 4 = some xs2) : xs2 = xs := by
  obtain ⟨xss, h1, h2⟩ := h
  have g : ∀ w : AW, Frm (fun _ => False) a w → w.load b (o + i * 4) 4 = some ((xss.flatten.drop (i * 4)).take 4) := by
    intro w hf
    rcases (h1.frm hf fun _ _ h => h).inv with ⟨q1, _⟩ | ⟨b', o', c', q, hB⟩
    · cases q1
    · cases q; exact hB.load (i * 4) 4 (by omega)
  rw [g w hf] at e1
  rw [g w2 hf2] at e2
  exact (Option.some.inj e2).symm.trans (Option.some.inj e1)
def SfI (aw : AW) (fv rv : V) (nm : List Nat) (rules : List Rl) (q : Nat) (f : Fr) (w : AW) : Prop :=
  ∃ i, f.get 1 = some fv ∧ f.get 2 = some (.str nm) ∧ f.get 8 = some rv ∧ f.get 9 = some (.int .i64 (Int.ofNat i)) ∧ i ≤ rules.length ∧ q = rules.length - i ∧ Frm (fun _ => False) aw w
def LkI (aw : AW) (nv wv : V) (bm : Nat) (L : Ps) (q : Nat) (f : Fr) (w : AW) : Prop :=
  ∃ i, f.get 10 = some (.map bm) ∧ f.get 12 = some nv ∧ f.get 13 = some wv ∧ f.get 15 = some (.int .i64 (Int.ofNat i)) ∧ i ≤ L.length ∧ q = L.length - i ∧ w = aw
theorem lenM {w : AW} {bm : Nat} {M : Ps} (h : SM w bm M) : ∃ es ck, w.entries (.map bm) = some (some bm, es, ck) ∧ es.length = M.length := h.len
/-- the law, its facts cut. -/
theorem checkRules_rest (C : Codes tab) {T T2 : Nat → Prop} {aw : AW} {rv fv : V} {nm : List Nat} {rules : List Rl} {facts : List Fa} {f : Fr} {s : List SI} {Q : Fr → AW → Prop} (hr : RdL (RlC T) T aw rv 4 rules) (hf : RdL (FaC T2) T2 aw fv 2 facts) (hbr : ∀ r ∈ rules, RBr r) (hn : rules.length ≤ 31) (hm : facts.length ≤ 10) (hfa : ∀ f ∈ facts, f.args.length ≤ 9223372036854775807)
    (f1 : f.get 1 = some fv) (f2 : f.get 2 = some (.str nm)) (f8 : f.get 8 = some rv) (f9 : f.get 9 = some (.int .i64 0))
    (h : ∀ f' w', f'.get 6 = some (.bool true) → Frm (fun _ => False) aw w' → WS tab [.code .ret] f' w' Q) : WS tab (.code (.loop k_law9_CheckRules_p4) :: .endB 0 :: .code k_law9_CheckRules_p13 :: s) f aw Q := by
  have hlv := rdL_lenV hr
  have hbd : Bds rules facts := ⟨by omega, fun r hr => (hbr r hr).big, by omega, hfa⟩
  refine WS_loopJ (SfI aw fv rv nm rules) (fun f w => f.get 1 = some fv ∧ f.get 2 = some (.str nm) ∧ f.get 8 = some rv ∧ Frm (fun _ => False) aw w) ?_ ?_ rules.length ⟨0, f1, f2, f8, f9, by omega, rfl, Frm.refl _⟩
  · rintro q f w ⟨i, f1, f2, f8, f9, hi, rfl, hfr⟩ ih exit
    by_cases hlt : i < rules.length
    case neg =>
      refine WS_runB 1000 (by simp only [go_sem, Nat.reduceAdd, Nat.reduceLT, Nat.reduceEqDiff, reduceIte, reduceCtorEq, Int.reduceBEq, Int.reduceBNe, Int.reduceLT, Int.reduceLE, Int.reduceGT, Int.reduceGE, Int.reduceEq, Int.reduceAdd, Int.reduceSub, Int.reduceMul, Nat.reduceMul, Nat.reduceSub, Nat.reduceLeDiff, k_law9_CheckRules_p4, f8, f9, hlv, hlt]; rfl) ?_
      exact exit _ _ _ ⟨(by simp only [go_sem, eRun_exit, Nat.reduceAdd, Nat.reduceLT, Nat.reduceEqDiff, reduceIte, reduceCtorEq, Int.reduceBEq, Int.reduceBNe, Int.reduceLT, Int.reduceLE, Int.reduceGT, Int.reduceGE, Int.reduceEq, Int.reduceAdd, Int.reduceSub, Int.reduceMul, Nat.reduceMul, Nat.reduceSub, Nat.reduceLeDiff, f1] <;> rfl), (by simp only [go_sem, eRun_exit, Nat.reduceAdd, Nat.reduceLT, Nat.reduceEqDiff, reduceIte, reduceCtorEq, Int.reduceBEq, Int.reduceBNe, Int.reduceLT, Int.reduceLE, Int.reduceGT, Int.reduceGE, Int.reduceEq, Int.reduceAdd, Int.reduceSub, Int.reduceMul, Nat.reduceMul, Nat.reduceSub, Nat.reduceLeDiff, f2] <;> rfl), (by simp only [go_sem, eRun_exit, Nat.reduceAdd, Nat.reduceLT, Nat.reduceEqDiff, reduceIte, reduceCtorEq, Int.reduceBEq, Int.reduceBNe, Int.reduceLT, Int.reduceLE, Int.reduceGT, Int.reduceGE, Int.reduceEq, Int.reduceAdd, Int.reduceSub, Int.reduceMul, Nat.reduceMul, Nat.reduceSub, Nat.reduceLeDiff, f8] <;> rfl), hfr⟩ rfl
    obtain ⟨r, hrr⟩ : ∃ t, rules[i]? = some t := ⟨_, List.getElem?_eq_getElem hlt⟩
    have hb := hbr r (List.mem_of_getElem? hrr)
    have hwr : IntKind.wrap .i64 (Int.ofNat i + 1) = Int.ofNat (i + 1) := wrap_succ (by omega)
    obtain ⟨b, o, c, xs, rfl, hxs, a4, _⟩ := rls_at2 hr hfr hrr
    refine WS_run 1000 (by simp only [go_sem, eRun_exit, Nat.reduceAdd, Nat.reduceLT, Nat.reduceEqDiff, reduceIte, reduceCtorEq, Int.reduceBEq, Int.reduceBNe, Int.reduceLT, Int.reduceLE, Int.reduceGT, Int.reduceGE, Int.reduceEq, Int.reduceAdd, Int.reduceSub, Int.reduceMul, Nat.reduceMul, Nat.reduceSub, Nat.reduceLeDiff, k_law9_CheckRules_p4, k_law9_CheckRules_p3, f8, f9, hlv, hlt]; rfl) ?_
    refine WS_drawn ?_
    refine WDs_run 100 (by simp only [go_sem, eRun_exit, Nat.reduceAdd, Nat.reduceLT, Nat.reduceEqDiff, reduceIte, reduceCtorEq, Int.reduceBEq, Int.reduceBNe, Int.reduceLT, Int.reduceLE, Int.reduceGT, Int.reduceGE, Int.reduceEq, Int.reduceAdd, Int.reduceSub, Int.reduceMul, Nat.reduceMul, Nat.reduceSub, Nat.reduceLeDiff, f8, f9, hlv, hlt, a4]; rfl) ?_
    refine WDs_call (by simp only [go_sem, eRun_exit, Nat.reduceAdd, Nat.reduceLT, Nat.reduceEqDiff, reduceIte, reduceCtorEq, Int.reduceBEq, Int.reduceBNe, Int.reduceLT, Int.reduceLE, Int.reduceGT, Int.reduceGE, Int.reduceEq, Int.reduceAdd, Int.reduceSub, Int.reduceMul, Nat.reduceMul, Nat.reduceSub, Nat.reduceLeDiff]) (by simp only [go_sem, eRun_exit, Nat.reduceAdd, Nat.reduceLT, Nat.reduceEqDiff, reduceIte, reduceCtorEq, Int.reduceBEq, Int.reduceBNe, Int.reduceLT, Int.reduceLE, Int.reduceGT, Int.reduceGE, Int.reduceEq, Int.reduceAdd, Int.reduceSub, Int.reduceMul, Nat.reduceMul, Nat.reduceSub, Nat.reduceLeDiff]; rfl) ?_
    refine safe_ok C (hxs.frm hfr fun _ _ h => h) hb.big fun w2 g1 => ?_
    have hfr2 := hfr.tr g1
    obtain ⟨b2, o2, c2, xs2, e2, hxs2, a42, _⟩ := rls_at2 hr hfr2 hrr
    cases e2
    cases rls_eq hr hfr hfr2 hlt a4 a42
    refine WDs_run 100 (by simp only [go_sem, eRun_exit, Nat.reduceAdd, Nat.reduceLT, Nat.reduceEqDiff, reduceIte, reduceCtorEq, Int.reduceBEq, Int.reduceBNe, Int.reduceLT, Int.reduceLE, Int.reduceGT, Int.reduceGE, Int.reduceEq, Int.reduceAdd, Int.reduceSub, Int.reduceMul, Nat.reduceMul, Nat.reduceSub, Nat.reduceLeDiff, f8, f9, hlv, hlt, a42]; rfl) ?_
    refine WDs_call (by simp only [go_sem, eRun_exit, Nat.reduceAdd, Nat.reduceLT, Nat.reduceEqDiff, reduceIte, reduceCtorEq, Int.reduceBEq, Int.reduceBNe, Int.reduceLT, Int.reduceLE, Int.reduceGT, Int.reduceGE, Int.reduceEq, Int.reduceAdd, Int.reduceSub, Int.reduceMul, Nat.reduceMul, Nat.reduceSub, Nat.reduceLeDiff]) (by simp only [go_sem, eRun_exit, Nat.reduceAdd, Nat.reduceLT, Nat.reduceEqDiff, reduceIte, reduceCtorEq, Int.reduceBEq, Int.reduceBNe, Int.reduceLT, Int.reduceLE, Int.reduceGT, Int.reduceGE, Int.reduceEq, Int.reduceAdd, Int.reduceSub, Int.reduceMul, Nat.reduceMul, Nat.reduceSub, Nat.reduceLeDiff]; rfl) ?_
    refine rsafe_ok C (hxs2.frm hfr2 fun _ _ h => h) hb.big fun w3 g2 => ?_
    have hfr3 := hfr2.tr g2
    cases hs : cSafe r with
    | true =>
      refine WDs_run 100 (by simp only [go_sem, eRun_exit, Nat.reduceAdd, Nat.reduceLT, Nat.reduceEqDiff, reduceIte, reduceCtorEq, Int.reduceBEq, Int.reduceBNe, Int.reduceLT, Int.reduceLE, Int.reduceGT, Int.reduceGE, Int.reduceEq, Int.reduceAdd, Int.reduceSub, Int.reduceMul, Nat.reduceMul, Nat.reduceSub, Nat.reduceLeDiff]; rfl) ?_
      refine WDs_nil ⟨(show chkAll _ _ [(8, 4)] from by simp only [go_sem, eRun_exit, Nat.reduceAdd, Nat.reduceLT, Nat.reduceEqDiff, reduceIte, reduceCtorEq, Int.reduceBEq, Int.reduceBNe, Int.reduceLT, Int.reduceLE, Int.reduceGT, Int.reduceGE, Int.reduceEq, Int.reduceAdd, Int.reduceSub, Int.reduceMul, Nat.reduceMul, Nat.reduceSub, Nat.reduceLeDiff, chkAll, chk, List.reverse_cons, List.reverse_nil, mkStp_fe, mkStp_v, mkStp_0, mkStp_1, List.getElem?_nil, false_or, or_true, or_false, exists_eq', Option.some.injEq, Prod.mk.injEq, Bool.true_eq_false, Bool.false_eq_true, and_true, true_and, implies_true,  a4, a42, f8, f9, hlt]), ?_⟩
      refine WS_run 1000 (by simp only [go_sem, eRun_exit, Nat.reduceAdd, Nat.reduceLT, Nat.reduceEqDiff, reduceIte, reduceCtorEq, Int.reduceBEq, Int.reduceBNe, Int.reduceLT, Int.reduceLE, Int.reduceGT, Int.reduceGE, Int.reduceEq, Int.reduceAdd, Int.reduceSub, Int.reduceMul, Nat.reduceMul, Nat.reduceSub, Nat.reduceLeDiff, f9, hwr]; rfl) ?_
      exact ih _ _ _ (by omega) ⟨i + 1, (by simp only [go_sem, eRun_exit, Nat.reduceAdd, Nat.reduceLT, Nat.reduceEqDiff, reduceIte, reduceCtorEq, Int.reduceBEq, Int.reduceBNe, Int.reduceLT, Int.reduceLE, Int.reduceGT, Int.reduceGE, Int.reduceEq, Int.reduceAdd, Int.reduceSub, Int.reduceMul, Nat.reduceMul, Nat.reduceSub, Nat.reduceLeDiff, f1] <;> rfl), (by simp only [go_sem, eRun_exit, Nat.reduceAdd, Nat.reduceLT, Nat.reduceEqDiff, reduceIte, reduceCtorEq, Int.reduceBEq, Int.reduceBNe, Int.reduceLT, Int.reduceLE, Int.reduceGT, Int.reduceGE, Int.reduceEq, Int.reduceAdd, Int.reduceSub, Int.reduceMul, Nat.reduceMul, Nat.reduceSub, Nat.reduceLeDiff, f2] <;> rfl), (by simp only [go_sem, eRun_exit, Nat.reduceAdd, Nat.reduceLT, Nat.reduceEqDiff, reduceIte, reduceCtorEq, Int.reduceBEq, Int.reduceBNe, Int.reduceLT, Int.reduceLE, Int.reduceGT, Int.reduceGE, Int.reduceEq, Int.reduceAdd, Int.reduceSub, Int.reduceMul, Nat.reduceMul, Nat.reduceSub, Nat.reduceLeDiff, f8] <;> rfl), (by simp only [go_sem, eRun_exit, Nat.reduceAdd, Nat.reduceLT, Nat.reduceEqDiff, reduceIte, reduceCtorEq, Int.reduceBEq, Int.reduceBNe, Int.reduceLT, Int.reduceLE, Int.reduceGT, Int.reduceGE, Int.reduceEq, Int.reduceAdd, Int.reduceSub, Int.reduceMul, Nat.reduceMul, Nat.reduceSub, Nat.reduceLeDiff] <;> rfl), by omega, rfl, hfr3⟩
    | false =>
      refine WDs_run 100 (by simp only [go_sem, eRun_exit, Nat.reduceAdd, Nat.reduceLT, Nat.reduceEqDiff, reduceIte, reduceCtorEq, Int.reduceBEq, Int.reduceBNe, Int.reduceLT, Int.reduceLE, Int.reduceGT, Int.reduceGE, Int.reduceEq, Int.reduceAdd, Int.reduceSub, Int.reduceMul, Nat.reduceMul, Nat.reduceSub, Nat.reduceLeDiff]; rfl) ?_
      refine WDs_nil ⟨(show chkAll _ _ [(8, 4)] from by simp only [go_sem, eRun_exit, Nat.reduceAdd, Nat.reduceLT, Nat.reduceEqDiff, reduceIte, reduceCtorEq, Int.reduceBEq, Int.reduceBNe, Int.reduceLT, Int.reduceLE, Int.reduceGT, Int.reduceGE, Int.reduceEq, Int.reduceAdd, Int.reduceSub, Int.reduceMul, Nat.reduceMul, Nat.reduceSub, Nat.reduceLeDiff, chkAll, chk, List.reverse_cons, List.reverse_nil, mkStp_fe, mkStp_v, mkStp_0, mkStp_1, List.getElem?_nil, false_or, or_true, or_false, exists_eq', Option.some.injEq, Prod.mk.injEq, Bool.true_eq_false, Bool.false_eq_true, and_true, true_and, implies_true,  a4, a42, f8, f9, hlt]), ?_⟩
      refine WS_run 1000 (by simp only [go_sem, eRun_exit, Nat.reduceAdd, Nat.reduceLT, Nat.reduceEqDiff, reduceIte, reduceCtorEq, Int.reduceBEq, Int.reduceBNe, Int.reduceLT, Int.reduceLE, Int.reduceGT, Int.reduceGE, Int.reduceEq, Int.reduceAdd, Int.reduceSub, Int.reduceMul, Nat.reduceMul, Nat.reduceSub, Nat.reduceLeDiff, f9, hwr]; rfl) ?_
      exact ih _ _ _ (by omega) ⟨i + 1, (by simp only [go_sem, eRun_exit, Nat.reduceAdd, Nat.reduceLT, Nat.reduceEqDiff, reduceIte, reduceCtorEq, Int.reduceBEq, Int.reduceBNe, Int.reduceLT, Int.reduceLE, Int.reduceGT, Int.reduceGE, Int.reduceEq, Int.reduceAdd, Int.reduceSub, Int.reduceMul, Nat.reduceMul, Nat.reduceSub, Nat.reduceLeDiff, f1] <;> rfl), (by simp only [go_sem, eRun_exit, Nat.reduceAdd, Nat.reduceLT, Nat.reduceEqDiff, reduceIte, reduceCtorEq, Int.reduceBEq, Int.reduceBNe, Int.reduceLT, Int.reduceLE, Int.reduceGT, Int.reduceGE, Int.reduceEq, Int.reduceAdd, Int.reduceSub, Int.reduceMul, Nat.reduceMul, Nat.reduceSub, Nat.reduceLeDiff, f2] <;> rfl), (by simp only [go_sem, eRun_exit, Nat.reduceAdd, Nat.reduceLT, Nat.reduceEqDiff, reduceIte, reduceCtorEq, Int.reduceBEq, Int.reduceBNe, Int.reduceLT, Int.reduceLE, Int.reduceGT, Int.reduceGE, Int.reduceEq, Int.reduceAdd, Int.reduceSub, Int.reduceMul, Nat.reduceMul, Nat.reduceSub, Nat.reduceLeDiff, f8] <;> rfl), (by simp only [go_sem, eRun_exit, Nat.reduceAdd, Nat.reduceLT, Nat.reduceEqDiff, reduceIte, reduceCtorEq, Int.reduceBEq, Int.reduceBNe, Int.reduceLT, Int.reduceLE, Int.reduceGT, Int.reduceGE, Int.reduceEq, Int.reduceAdd, Int.reduceSub, Int.reduceMul, Nat.reduceMul, Nat.reduceSub, Nat.reduceLeDiff] <;> rfl), by omega, rfl, hfr3⟩
  · rintro f w ⟨f1, f2, f8, hfr⟩
    have hr1 : RdL (RlC T) T w rv 4 rules := hr.frm (fun _ _ h => h.frm hfr fun _ _ h => h) hfr fun _ _ h => h
    have hf1 : RdL (FaC T2) T2 w fv 2 facts := hf.frm (fun _ _ h => h.frm hfr fun _ _ h => h) hfr fun _ _ h => h
    have same : SameS (sees st0 (allP rules facts)) (rsees st0 (allP rules facts)) := sees_same _ ⟨rfl, fun _ => rfl⟩
    have once : Once (rsees st0 (allP rules facts)).1 := once_sees _ (fun i p h => by simp [st0] at h)
    refine WS_run 1000 (by simp only [go_sem, eRun_exit, Nat.reduceAdd, Nat.reduceLT, Nat.reduceEqDiff, reduceIte, reduceCtorEq, Int.reduceBEq, Int.reduceBNe, Int.reduceLT, Int.reduceLE, Int.reduceGT, Int.reduceGE, Int.reduceEq, Int.reduceAdd, Int.reduceSub, Int.reduceMul, Nat.reduceMul, Nat.reduceSub, Nat.reduceLeDiff, k_law9_CheckRules_p13, f1, f8]; rfl) ?_
    refine WS_call (by simp only [go_sem, eRun_exit, Nat.reduceAdd, Nat.reduceLT, Nat.reduceEqDiff, reduceIte, reduceCtorEq, Int.reduceBEq, Int.reduceBNe, Int.reduceLT, Int.reduceLE, Int.reduceGT, Int.reduceGE, Int.reduceEq, Int.reduceAdd, Int.reduceSub, Int.reduceMul, Nat.reduceMul, Nat.reduceSub, Nat.reduceLeDiff]) (by simp only [go_sem, eRun_exit, Nat.reduceAdd, Nat.reduceLT, Nat.reduceEqDiff, reduceIte, reduceCtorEq, Int.reduceBEq, Int.reduceBNe, Int.reduceLT, Int.reduceLE, Int.reduceGT, Int.reduceGE, Int.reduceEq, Int.reduceAdd, Int.reduceSub, Int.reduceMul, Nat.reduceMul, Nat.reduceSub, Nat.reduceLeDiff]; rfl) ?_
    refine arities_ok C hr1 hf1 hbd (fun w2 bm hb hM hge g2 => ?_) (fun w2 hb g2 => ?_)
    · have hr2 : RdL (RlC T) T w2 rv 4 rules := hr1.frm (fun _ _ h => h.frm g2 fun _ _ h => h) g2 fun _ _ h => h
      have hf2 : RdL (FaC T2) T2 w2 fv 2 facts := hf1.frm (fun _ _ h => h.frm g2 fun _ _ h => h) g2 fun _ _ h => h
      refine WS_run 1000 (by simp only [go_sem, eRun_exit, Nat.reduceAdd, Nat.reduceLT, Nat.reduceEqDiff, reduceIte, reduceCtorEq, Int.reduceBEq, Int.reduceBNe, Int.reduceLT, Int.reduceLE, Int.reduceGT, Int.reduceGE, Int.reduceEq, Int.reduceAdd, Int.reduceSub, Int.reduceMul, Nat.reduceMul, Nat.reduceSub, Nat.reduceLeDiff, k_law9_CheckRules_p12, f1, f8]; rfl) ?_
      refine WS_call (by simp only [go_sem, eRun_exit, Nat.reduceAdd, Nat.reduceLT, Nat.reduceEqDiff, reduceIte, reduceCtorEq, Int.reduceBEq, Int.reduceBNe, Int.reduceLT, Int.reduceLE, Int.reduceGT, Int.reduceGE, Int.reduceEq, Int.reduceAdd, Int.reduceSub, Int.reduceMul, Nat.reduceMul, Nat.reduceSub, Nat.reduceLeDiff]) (by simp only [go_sem, eRun_exit, Nat.reduceAdd, Nat.reduceLT, Nat.reduceEqDiff, reduceIte, reduceCtorEq, Int.reduceBEq, Int.reduceBNe, Int.reduceLT, Int.reduceLE, Int.reduceGT, Int.reduceGE, Int.reduceEq, Int.reduceAdd, Int.reduceSub, Int.reduceMul, Nat.reduceMul, Nat.reduceSub, Nat.reduceLeDiff]; rfl) ?_
      refine preds_ok C hr2 hf2 hbd fun w3 nv wv S1 S2 hA => ?_
      have e1 := same.1
      have e2 := same.2 hb
      rw [hb] at e1
      rw [← e1]
      have hM3 : SM w3 bm (rsees st0 (allP rules facts)).1 := by rw [← e2]; exact hM.frm hA.frm fun h => h
      have hll : (rsees st0 (allP rules facts)).1.length ≤ 10000000 := by
        have h1 := rsees_len (allP rules facts) st0
        have h2 := rules_len rules fun r hr => (hbr r hr).big
        have h3 := flat_le factP (fun _ => Nat.le_refl _) facts
        have h4 : st0.1.length = 0 := rfl
        have h5 : (allP rules facts).length = (rules.flatMap ruleP).length + (facts.flatMap factP).length := by simp [allP]
        omega
      obtain ⟨es, ck, m1, m2⟩ := lenM hM3
      have hal := hA.a.lenV
      generalize hL : (rsees st0 (allP rules facts)).1 = L at hA hM3 once hll m2 hal
      clear same e1 e2 hM
      have hfr3 := (hfr.tr g2).tr hA.frm
      have hr3 : RdL (RlC T) T w3 rv 4 rules := hr2.frm (fun _ _ h => h.frm hA.frm fun _ _ h => h) hA.frm fun _ _ h => h
      refine WS_run 1000 (by simp only [go_sem, eRun_exit, Nat.reduceAdd, Nat.reduceLT, Nat.reduceEqDiff, reduceIte, reduceCtorEq, Int.reduceBEq, Int.reduceBNe, Int.reduceLT, Int.reduceLE, Int.reduceGT, Int.reduceGE, Int.reduceEq, Int.reduceAdd, Int.reduceSub, Int.reduceMul, Nat.reduceMul, Nat.reduceSub, Nat.reduceLeDiff, k_law9_CheckRules_p12, k_law9_CheckRules_p11, f2, f8, m1, m2, hal]; rfl) ?_
      refine WS_call (by simp only [go_sem, eRun_exit, Nat.reduceAdd, Nat.reduceLT, Nat.reduceEqDiff, reduceIte, reduceCtorEq, Int.reduceBEq, Int.reduceBNe, Int.reduceLT, Int.reduceLE, Int.reduceGT, Int.reduceGE, Int.reduceEq, Int.reduceAdd, Int.reduceSub, Int.reduceMul, Nat.reduceMul, Nat.reduceSub, Nat.reduceLeDiff]) (by simp only [go_sem, eRun_exit, Nat.reduceAdd, Nat.reduceLT, Nat.reduceEqDiff, reduceIte, reduceCtorEq, Int.reduceBEq, Int.reduceBNe, Int.reduceLT, Int.reduceLE, Int.reduceGT, Int.reduceGE, Int.reduceEq, Int.reduceAdd, Int.reduceSub, Int.reduceMul, Nat.reduceMul, Nat.reduceSub, Nat.reduceLeDiff]; rfl) ?_
      refine defined_ok C hr3 (by omega) fun w4 g4 => ?_
      have hr4 : RdL (RlC T) T w4 rv 4 rules := hr3.frm (fun _ _ h => h.frm g4 fun _ _ h => h) g4 fun _ _ h => h
      refine WS_run 1000 (by simp only [go_sem, eRun_exit, Nat.reduceAdd, Nat.reduceLT, Nat.reduceEqDiff, reduceIte, reduceCtorEq, Int.reduceBEq, Int.reduceBNe, Int.reduceLT, Int.reduceLE, Int.reduceGT, Int.reduceGE, Int.reduceEq, Int.reduceAdd, Int.reduceSub, Int.reduceMul, Nat.reduceMul, Nat.reduceSub, Nat.reduceLeDiff, f2, f8]; rfl) ?_
      refine WS_call (by simp only [go_sem, eRun_exit, Nat.reduceAdd, Nat.reduceLT, Nat.reduceEqDiff, reduceIte, reduceCtorEq, Int.reduceBEq, Int.reduceBNe, Int.reduceLT, Int.reduceLE, Int.reduceGT, Int.reduceGE, Int.reduceEq, Int.reduceAdd, Int.reduceSub, Int.reduceMul, Nat.reduceMul, Nat.reduceSub, Nat.reduceLeDiff]) (by simp only [go_sem, eRun_exit, Nat.reduceAdd, Nat.reduceLT, Nat.reduceEqDiff, reduceIte, reduceCtorEq, Int.reduceBEq, Int.reduceBNe, Int.reduceLT, Int.reduceLE, Int.reduceGT, Int.reduceGE, Int.reduceEq, Int.reduceAdd, Int.reduceSub, Int.reduceMul, Nat.reduceMul, Nat.reduceSub, Nat.reduceLeDiff]; rfl) ?_
      refine rdefined_ok C hr4 (by omega) ?_
      have A4 : NW w2 w4 nv wv L S1 S2 := hA.ext g4
      have M4 : SM w4 bm L := hM3.frm g4 fun h => h
      have hfr4 := hfr3.tr g4
      have go : ∀ f : Fr, f.get 10 = some (.map bm) → f.get 12 = some nv → f.get 13 = some wv → f.get 15 = some (.int .i64 (Int.ofNat 0)) →
          WS tab (.code (.loop k_law9_CheckRules_p10) :: .endB 2 :: .code (.seq (.region [⟨some 6, none, .mov (.const (.bool true))⟩]) .ret) :: s) f w4 Q := by
        intro f f10 f12 f13 f15
        refine WS_loopJ (LkI w4 nv wv bm L) (fun f w => w = w4) ?_ ?_ L.length ⟨0, f10, f12, f13, f15, by omega, rfl, rfl⟩
        · rintro q f w ⟨i, f10, f12, f13, f15, hi, rfl, rfl⟩ ih exit
          by_cases hlt : i < L.length
          case neg =>
            refine WS_runB 1000 (by simp only [go_sem, Nat.reduceAdd, Nat.reduceLT, Nat.reduceEqDiff, reduceIte, reduceCtorEq, Int.reduceBEq, Int.reduceBNe, Int.reduceLT, Int.reduceLE, Int.reduceGT, Int.reduceGE, Int.reduceEq, Int.reduceAdd, Int.reduceSub, Int.reduceMul, Nat.reduceMul, Nat.reduceSub, Nat.reduceLeDiff, k_law9_CheckRules_p10, f12, f15, hal, hlt]; rfl) ?_
            exact exit _ _ _ rfl rfl
          obtain ⟨p, hp⟩ : ∃ t, L[i]? = some t := ⟨_, List.getElem?_eq_getElem hlt⟩
          have hwr : IntKind.wrap .i64 (Int.ofNat i + 1) = Int.ofNat (i + 1) := wrap_succ (by omega)
          rcases A4.a.rd.inv with ⟨_, q2, _⟩ | ⟨b, o, c, rfl, hB⟩
          · omega
          rcases A4.b.rd.inv with ⟨_, q2, _⟩ | ⟨b2, o2, c2, rfl, hB2⟩
          · omega
          have l1 : w.load b (o + i) 1 = some [.str p.1] := by
            rw [hB.load i 1 (by omega)]
            refine congrArg some ?_
            exact tk1 (by rw [nmsC, List.getElem?_map, hp]; rfl)
          have l2 : w.load b2 (o2 + i) 1 = some [.int .i64 p.2] := by
            rw [hB2.load i 1 (by omega)]
            refine congrArg some ?_
            exact tk1 (by rw [wdtC, List.getElem?_map, hp]; rfl)
          have look := M4.look strKey (.int .i64 0) p.1
          rw [once i p hp] at look
          simp only [mres] at look
          have eb : (p.2 != p.2) = false := by simp
          refine WS_run 1000 (by simp only [go_sem, eRun_exit, Nat.reduceAdd, Nat.reduceLT, Nat.reduceEqDiff, reduceIte, reduceCtorEq, Int.reduceBEq, Int.reduceBNe, Int.reduceLT, Int.reduceLE, Int.reduceGT, Int.reduceGE, Int.reduceEq, Int.reduceAdd, Int.reduceSub, Int.reduceMul, Nat.reduceMul, Nat.reduceSub, Nat.reduceLeDiff, k_law9_CheckRules_p10, k_law9_CheckRules_p9, k_law9_CheckRules_p8, f10, f12, f13, f15, hal, hlt, l1, l2, look, Nat.mul_one, eb, hwr]; rfl) ?_
          exact ih _ _ _ (by omega) ⟨i + 1, (by simp only [go_sem, eRun_exit, Nat.reduceAdd, Nat.reduceLT, Nat.reduceEqDiff, reduceIte, reduceCtorEq, Int.reduceBEq, Int.reduceBNe, Int.reduceLT, Int.reduceLE, Int.reduceGT, Int.reduceGE, Int.reduceEq, Int.reduceAdd, Int.reduceSub, Int.reduceMul, Nat.reduceMul, Nat.reduceSub, Nat.reduceLeDiff, f10] <;> rfl), (by simp only [go_sem, eRun_exit, Nat.reduceAdd, Nat.reduceLT, Nat.reduceEqDiff, reduceIte, reduceCtorEq, Int.reduceBEq, Int.reduceBNe, Int.reduceLT, Int.reduceLE, Int.reduceGT, Int.reduceGE, Int.reduceEq, Int.reduceAdd, Int.reduceSub, Int.reduceMul, Nat.reduceMul, Nat.reduceSub, Nat.reduceLeDiff, f12] <;> rfl), (by simp only [go_sem, eRun_exit, Nat.reduceAdd, Nat.reduceLT, Nat.reduceEqDiff, reduceIte, reduceCtorEq, Int.reduceBEq, Int.reduceBNe, Int.reduceLT, Int.reduceLE, Int.reduceGT, Int.reduceGE, Int.reduceEq, Int.reduceAdd, Int.reduceSub, Int.reduceMul, Nat.reduceMul, Nat.reduceSub, Nat.reduceLeDiff, f13] <;> rfl), (by simp only [go_sem, eRun_exit, Nat.reduceAdd, Nat.reduceLT, Nat.reduceEqDiff, reduceIte, reduceCtorEq, Int.reduceBEq, Int.reduceBNe, Int.reduceLT, Int.reduceLE, Int.reduceGT, Int.reduceGE, Int.reduceEq, Int.reduceAdd, Int.reduceSub, Int.reduceMul, Nat.reduceMul, Nat.reduceSub, Nat.reduceLeDiff] <;> rfl), by omega, rfl, rfl⟩
        · rintro f w rfl
          refine WS_run 1000 (by simp only [go_sem, eRun_exit, Nat.reduceAdd, Nat.reduceLT, Nat.reduceEqDiff, reduceIte, reduceCtorEq, Int.reduceBEq, Int.reduceBNe, Int.reduceLT, Int.reduceLE, Int.reduceGT, Int.reduceGE, Int.reduceEq, Int.reduceAdd, Int.reduceSub, Int.reduceMul, Nat.reduceMul, Nat.reduceSub, Nat.reduceLeDiff]; rfl) ?_
          refine h _ _ ?_ hfr4

          exact (by simp only [go_sem, eRun_exit, Nat.reduceAdd, Nat.reduceLT, Nat.reduceEqDiff, reduceIte, reduceCtorEq, Int.reduceBEq, Int.reduceBNe, Int.reduceLT, Int.reduceLE, Int.reduceGT, Int.reduceGE, Int.reduceEq, Int.reduceAdd, Int.reduceSub, Int.reduceMul, Nat.reduceMul, Nat.reduceSub, Nat.reduceLeDiff] <;> rfl)
      generalize decide (cDefined rules nm) = d
      cases d with
      | true =>
        refine WS_run 1000 (by simp only [go_sem, eRun_exit, Nat.reduceAdd, Nat.reduceLT, Nat.reduceEqDiff, reduceIte, reduceCtorEq, Int.reduceBEq, Int.reduceBNe, Int.reduceLT, Int.reduceLE, Int.reduceGT, Int.reduceGE, Int.reduceEq, Int.reduceAdd, Int.reduceSub, Int.reduceMul, Nat.reduceMul, Nat.reduceSub, Nat.reduceLeDiff]; rfl) ?_
        exact go _ (by simp only [go_sem, eRun_exit, Nat.reduceAdd, Nat.reduceLT, Nat.reduceEqDiff, reduceIte, reduceCtorEq, Int.reduceBEq, Int.reduceBNe, Int.reduceLT, Int.reduceLE, Int.reduceGT, Int.reduceGE, Int.reduceEq, Int.reduceAdd, Int.reduceSub, Int.reduceMul, Nat.reduceMul, Nat.reduceSub, Nat.reduceLeDiff] <;> rfl) (by simp only [go_sem, eRun_exit, Nat.reduceAdd, Nat.reduceLT, Nat.reduceEqDiff, reduceIte, reduceCtorEq, Int.reduceBEq, Int.reduceBNe, Int.reduceLT, Int.reduceLE, Int.reduceGT, Int.reduceGE, Int.reduceEq, Int.reduceAdd, Int.reduceSub, Int.reduceMul, Nat.reduceMul, Nat.reduceSub, Nat.reduceLeDiff] <;> rfl) (by simp only [go_sem, eRun_exit, Nat.reduceAdd, Nat.reduceLT, Nat.reduceEqDiff, reduceIte, reduceCtorEq, Int.reduceBEq, Int.reduceBNe, Int.reduceLT, Int.reduceLE, Int.reduceGT, Int.reduceGE, Int.reduceEq, Int.reduceAdd, Int.reduceSub, Int.reduceMul, Nat.reduceMul, Nat.reduceSub, Nat.reduceLeDiff] <;> rfl) (by simp only [go_sem, eRun_exit, Nat.reduceAdd, Nat.reduceLT, Nat.reduceEqDiff, reduceIte, reduceCtorEq, Int.reduceBEq, Int.reduceBNe, Int.reduceLT, Int.reduceLE, Int.reduceGT, Int.reduceGE, Int.reduceEq, Int.reduceAdd, Int.reduceSub, Int.reduceMul, Nat.reduceMul, Nat.reduceSub, Nat.reduceLeDiff] <;> rfl)
      | false =>
        refine WS_run 1000 (by simp only [go_sem, eRun_exit, Nat.reduceAdd, Nat.reduceLT, Nat.reduceEqDiff, reduceIte, reduceCtorEq, Int.reduceBEq, Int.reduceBNe, Int.reduceLT, Int.reduceLE, Int.reduceGT, Int.reduceGE, Int.reduceEq, Int.reduceAdd, Int.reduceSub, Int.reduceMul, Nat.reduceMul, Nat.reduceSub, Nat.reduceLeDiff]; rfl) ?_
        exact go _ (by simp only [go_sem, eRun_exit, Nat.reduceAdd, Nat.reduceLT, Nat.reduceEqDiff, reduceIte, reduceCtorEq, Int.reduceBEq, Int.reduceBNe, Int.reduceLT, Int.reduceLE, Int.reduceGT, Int.reduceGE, Int.reduceEq, Int.reduceAdd, Int.reduceSub, Int.reduceMul, Nat.reduceMul, Nat.reduceSub, Nat.reduceLeDiff] <;> rfl) (by simp only [go_sem, eRun_exit, Nat.reduceAdd, Nat.reduceLT, Nat.reduceEqDiff, reduceIte, reduceCtorEq, Int.reduceBEq, Int.reduceBNe, Int.reduceLT, Int.reduceLE, Int.reduceGT, Int.reduceGE, Int.reduceEq, Int.reduceAdd, Int.reduceSub, Int.reduceMul, Nat.reduceMul, Nat.reduceSub, Nat.reduceLeDiff] <;> rfl) (by simp only [go_sem, eRun_exit, Nat.reduceAdd, Nat.reduceLT, Nat.reduceEqDiff, reduceIte, reduceCtorEq, Int.reduceBEq, Int.reduceBNe, Int.reduceLT, Int.reduceLE, Int.reduceGT, Int.reduceGE, Int.reduceEq, Int.reduceAdd, Int.reduceSub, Int.reduceMul, Nat.reduceMul, Nat.reduceSub, Nat.reduceLeDiff] <;> rfl) (by simp only [go_sem, eRun_exit, Nat.reduceAdd, Nat.reduceLT, Nat.reduceEqDiff, reduceIte, reduceCtorEq, Int.reduceBEq, Int.reduceBNe, Int.reduceLT, Int.reduceLE, Int.reduceGT, Int.reduceGE, Int.reduceEq, Int.reduceAdd, Int.reduceSub, Int.reduceMul, Nat.reduceMul, Nat.reduceSub, Nat.reduceLeDiff] <;> rfl)
    · have hr2 : RdL (RlC T) T w2 rv 4 rules := hr1.frm (fun _ _ h => h.frm g2 fun _ _ h => h) g2 fun _ _ h => h
      have hf2 : RdL (FaC T2) T2 w2 fv 2 facts := hf1.frm (fun _ _ h => h.frm g2 fun _ _ h => h) g2 fun _ _ h => h
      refine WS_run 1000 (by simp only [go_sem, eRun_exit, Nat.reduceAdd, Nat.reduceLT, Nat.reduceEqDiff, reduceIte, reduceCtorEq, Int.reduceBEq, Int.reduceBNe, Int.reduceLT, Int.reduceLE, Int.reduceGT, Int.reduceGE, Int.reduceEq, Int.reduceAdd, Int.reduceSub, Int.reduceMul, Nat.reduceMul, Nat.reduceSub, Nat.reduceLeDiff, k_law9_CheckRules_p12, f1, f8]; rfl) ?_
      refine WS_call (by simp only [go_sem, eRun_exit, Nat.reduceAdd, Nat.reduceLT, Nat.reduceEqDiff, reduceIte, reduceCtorEq, Int.reduceBEq, Int.reduceBNe, Int.reduceLT, Int.reduceLE, Int.reduceGT, Int.reduceGE, Int.reduceEq, Int.reduceAdd, Int.reduceSub, Int.reduceMul, Nat.reduceMul, Nat.reduceSub, Nat.reduceLeDiff]) (by simp only [go_sem, eRun_exit, Nat.reduceAdd, Nat.reduceLT, Nat.reduceEqDiff, reduceIte, reduceCtorEq, Int.reduceBEq, Int.reduceBNe, Int.reduceLT, Int.reduceLE, Int.reduceGT, Int.reduceGE, Int.reduceEq, Int.reduceAdd, Int.reduceSub, Int.reduceMul, Nat.reduceMul, Nat.reduceSub, Nat.reduceLeDiff]; rfl) ?_
      refine preds_ok C hr2 hf2 hbd fun w3 nv wv S1 S2 hA => ?_
      have e1 := same.1
      rw [hb] at e1
      rw [← e1]
      refine WS_run 1000 (by simp only [go_sem, eRun_exit, Nat.reduceAdd, Nat.reduceLT, Nat.reduceEqDiff, reduceIte, reduceCtorEq, Int.reduceBEq, Int.reduceBNe, Int.reduceLT, Int.reduceLE, Int.reduceGT, Int.reduceGE, Int.reduceEq, Int.reduceAdd, Int.reduceSub, Int.reduceMul, Nat.reduceMul, Nat.reduceSub, Nat.reduceLeDiff, k_law9_CheckRules_p12, k_law9_CheckRules_p5, AW.entries]; rfl) ?_
      exact h _ _ (by simp only [go_sem, eRun_exit, Nat.reduceAdd, Nat.reduceLT, Nat.reduceEqDiff, reduceIte, reduceCtorEq, Int.reduceBEq, Int.reduceBNe, Int.reduceLT, Int.reduceLE, Int.reduceGT, Int.reduceGE, Int.reduceEq, Int.reduceAdd, Int.reduceSub, Int.reduceMul, Nat.reduceMul, Nat.reduceSub, Nat.reduceLeDiff] <;> rfl) ((hfr.tr g2).tr hA.frm)
end Go.Proofs.Ytjidefnbancmfaa

/- CheckRules: facts as they are given; the law. -/
set_option linter.unusedVariables false
set_option maxRecDepth 10000
set_option linter.unusedSimpArgs false
namespace Go.Proofs.Ytjidefnbancmfaa
open Go.AE Delphi
variable {tab : Tab}
abbrev IntC : AW → Int → List V → Prop := fun _ n xs => xs = [.int .i64 n] ∧ (Lit.int .i64 n).wf = true
abbrev StrC : AW → List Nat → List V → Prop := fun _ s xs => xs = [.str s] ∧ (∀ c ∈ s, c < 256) ∧ s.length ≤ maxLen
abbrev TmR : AW → Int × List Nat × Int × Unit → List V → Prop := fun aw p xs => ∃ x1 x2, xs = x1 ++ x2 ∧ IntC aw p.1 x1 ∧ ∃ y1 y2, x2 = y1 ++ y2 ∧ StrC aw p.2.1 y1 ∧ ∃ z1 z2, y2 = z1 ++ z2 ∧ IntC aw p.2.2.1 z1 ∧ z2 = []
abbrev FactR : AW → List Nat × List (Int × List Nat × Int × Unit) × Unit → List V → Prop := fun aw p xs => ∃ x1 x2, xs = x1 ++ x2 ∧ StrC aw p.1 x1 ∧ ∃ y1 y2, x2 = y1 ++ y2 ∧ SliceR TmR aw p.2.1 y1 ∧ y2 = []
def toFa (p : List Nat × List (Int × List Nat × Int × Unit) × Unit) : Fa := ⟨p.1, p.2.1⟩
theorem tms_flat {aw : AW} : ∀ {l : List (Int × List Nat × Int × Unit)} {xss : List (List V)}, All2 (TmR aw) l xss → xss.flatten.length = l.length * 3
  | [], _, .nil => rfl
  | x :: l, _, .cons ⟨_, _, e1, ⟨h1, _⟩, _, _, e2, ⟨h2, _⟩, _, _, e3, ⟨h3, _⟩, e4⟩ h => by
    subst e1 e2 e3 h1 h2 h3 e4
    rw [List.flatten_cons, List.length_append, tms_flat h, List.length_cons]
    simp; omega
theorem capfit {n esz : Nat} {c : Cap} (h : CapOk n c) : CapFit esz n c := by
  cases c with
  | known k => exact h
  | upTo z => exact .inr h
theorem slice_rd {α : Type} {rel : AW → α → List V → Prop} {aw : AW} {l : List α} {x : V} {esz : Nat} (h : SliceR rel aw l [x]) (hsz : ∀ {xss : List (List V)}, All2 (rel aw) l xss → xss.flatten.length = l.length * esz) : ∃ xss, Rd (fun _ => True) aw x esz l.length xss.flatten ∧ All2 (rel aw) l xss ∧ l.length ≤ maxLen := by
  rcases h with ⟨h1, rfl⟩ | ⟨b, c, xss, h1, hb, hg, ha, hl, hc⟩
  · cases h1; exact ⟨[], .nil, .nil, Nat.zero_le _⟩
  · cases h1
    have hz := hsz ha
    exact ⟨xss, .blk trivial hb hg (.inr (.inr (.inl rfl))) (by omega) (by rw [List.drop_zero, List.take_of_length_le (by omega)]) (capfit hc), ha, hl⟩
theorem fact_c {aw : AW} {p : List Nat × List (Int × List Nat × Int × Unit) × Unit} {xs : List V} (h : FactR aw p xs) : FaC (fun _ => True) aw (toFa p) xs ∧ p.2.1.length ≤ maxLen := by
  obtain ⟨x1, x2, rfl, ⟨rfl, _⟩, y1, y2, rfl, h2, rfl⟩ := h
  have hy : ∃ v, y1 = [v] := by
    rcases h2 with ⟨rfl, _⟩ | ⟨b, c, xss, rfl, _⟩ <;> exact ⟨_, rfl⟩
  obtain ⟨v, rfl⟩ := hy
  obtain ⟨xss, h3, _, h4⟩ := slice_rd h2 tms_flat
  exact ⟨⟨v, rfl, xss.flatten, h3⟩, h4⟩
theorem facts_flat {aw : AW} : ∀ {l : List (List Nat × List (Int × List Nat × Int × Unit) × Unit)} {xss : List (List V)}, All2 (FactR aw) l xss → xss.flatten.length = l.length * 2
  | [], _, .nil => rfl
  | x :: l, _, .cons h1 h => by
    rw [List.flatten_cons, List.length_append, facts_flat h, List.length_cons, (FaC.one (fact_c h1).1).1]; omega
theorem facts_c {aw : AW} : ∀ {l : List (List Nat × List (Int × List Nat × Int × Unit) × Unit)} {xss : List (List V)}, All2 (FactR aw) l xss → All2 (FaC (fun _ => True) aw) (l.map toFa) xss ∧ ∀ f ∈ l.map toFa, f.args.length ≤ maxLen
  | [], _, .nil => ⟨.nil, by simp⟩
  | x :: l, _, .cons h1 h => by
    obtain ⟨g1, g2⟩ := facts_c h
    obtain ⟨k1, k2⟩ := fact_c h1
    refine ⟨.cons k1 g1, fun f hf => ?_⟩
    rcases List.mem_cons.1 hf with rfl | hf
    · exact k2
    · exact g2 f hf
theorem all2_take {α β : Type} {r : α → β → Prop} : ∀ {l : List α} {m : List β} (n : Nat), All2 r l m → All2 r (l.take n) (m.take n)
  | _, _, 0, _ => .nil
  | _, _, n + 1, .nil => .nil
  | _, _, n + 1, .cons h1 h2 => .cons h1 (all2_take n h2)
theorem flat_take {l : List Fa} {xss : List (List V)} {T : Nat → Prop} {aw : AW} : ∀ (n : Nat), All2 (FaC T aw) l xss → (xss.take n).flatten = xss.flatten.take (n * 2) := by
  intro n h
  induction h generalizing n with
  | nil => simp
  | cons h1 h2 ih =>
    cases n with
    | zero => simp
    | succ n =>
      have e := (FaC.one h1).1
      rw [List.take_succ_cons, List.flatten_cons, List.flatten_cons, ih n, List.take_append, e]
      have t1 : (n + 1) * 2 - 2 = n * 2 := by omega
      rw [t1]
      congr 1
      exact (List.take_of_length_le (by omega)).symm
/-- CheckRules. -/
theorem checkRules_law (C : Codes tab) (B : Begins tab n_law9_begun) {s nm : List Nat} {fv : V} {facts : List (List Nat × List (Int × List Nat × Int × Unit) × Unit)} {aw : AW} (hs : ∀ x ∈ s, x < 256) (ho : SliceR FactR aw facts [fv]) :
    WF tab n_law9_CheckRules [.str s, fv, .str nm] aw (fun v aw' => v = .bool true ∧ Ext aw.next aw aw') := by
  refine WF_of C.c_law9_CheckRules rfl ?_
  obtain ⟨xss, hrd, hall, hml⟩ := slice_rd ho facts_flat
  obtain ⟨hall, hfa⟩ := facts_c hall
  have hrd : Rd (fun _ => True) aw fv 2 (facts.map toFa).length xss.flatten := by rw [List.length_map]; exact hrd
  have hlen : (facts.map toFa).length ≤ maxLen := by rw [List.length_map]; exact hml
  have hsh : (fv = .nilslice ∧ (facts.map toFa).length = 0) ∨ ∃ b c, fv = .slice b 0 (facts.map toFa).length c ∧ CapOk (facts.map toFa).length c := by
    rcases ho with ⟨h1, rfl⟩ | ⟨b, c, xss, h1, _, _, _, _, hc⟩
    · cases h1; exact .inl ⟨rfl, rfl⟩
    · cases h1; exact .inr ⟨b, c, by rw [List.length_map], by rw [List.length_map]; exact hc⟩
  clear hml ho
  generalize facts.map toFa = fs at hall hfa hrd hlen hsh
  refine WS_run 1000 (by simp only [go_sem, eRun_exit, Nat.reduceAdd, Nat.reduceLT, Nat.reduceEqDiff, reduceIte, reduceCtorEq, Int.reduceBEq, Int.reduceBNe, Int.reduceLT, Int.reduceLE, Int.reduceGT, Int.reduceGE, Int.reduceEq, Int.reduceAdd, Int.reduceSub, Int.reduceMul, Nat.reduceMul, Nat.reduceSub, Nat.reduceLeDiff, k_law9_CheckRules]; rfl) ?_
  refine WS_call (by simp only [go_sem, eRun_exit, Nat.reduceAdd, Nat.reduceLT, Nat.reduceEqDiff, reduceIte, reduceCtorEq, Int.reduceBEq, Int.reduceBNe, Int.reduceLT, Int.reduceLE, Int.reduceGT, Int.reduceGE, Int.reduceEq, Int.reduceAdd, Int.reduceSub, Int.reduceMul, Nat.reduceMul, Nat.reduceSub, Nat.reduceLeDiff]) (by simp only [go_sem, eRun_exit, Nat.reduceAdd, Nat.reduceLT, Nat.reduceEqDiff, reduceIte, reduceCtorEq, Int.reduceBEq, Int.reduceBNe, Int.reduceLT, Int.reduceLE, Int.reduceGT, Int.reduceGE, Int.reduceEq, Int.reduceAdd, Int.reduceSub, Int.reduceMul, Nat.reduceMul, Nat.reduceSub, Nat.reduceLeDiff]; rfl) ?_
  refine begins_ok B ?_
  refine WS_run 1000 (by simp only [go_sem, eRun_exit, Nat.reduceAdd, Nat.reduceLT, Nat.reduceEqDiff, reduceIte, reduceCtorEq, Int.reduceBEq, Int.reduceBNe, Int.reduceLT, Int.reduceLE, Int.reduceGT, Int.reduceGE, Int.reduceEq, Int.reduceAdd, Int.reduceSub, Int.reduceMul, Nat.reduceMul, Nat.reduceSub, Nat.reduceLeDiff, k_law9_CheckRules_p15]; rfl) ?_
  refine WS_call (by simp only [go_sem, eRun_exit, Nat.reduceAdd, Nat.reduceLT, Nat.reduceEqDiff, reduceIte, reduceCtorEq, Int.reduceBEq, Int.reduceBNe, Int.reduceLT, Int.reduceLE, Int.reduceGT, Int.reduceGE, Int.reduceEq, Int.reduceAdd, Int.reduceSub, Int.reduceMul, Nat.reduceMul, Nat.reduceSub, Nat.reduceLeDiff]) (by simp only [go_sem, eRun_exit, Nat.reduceAdd, Nat.reduceLT, Nat.reduceEqDiff, reduceIte, reduceCtorEq, Int.reduceBEq, Int.reduceBNe, Int.reduceLT, Int.reduceLE, Int.reduceGT, Int.reduceGE, Int.reduceEq, Int.reduceAdd, Int.reduceSub, Int.reduceMul, Nat.reduceMul, Nat.reduceSub, Nat.reduceLeDiff]; rfl) ?_
  refine lrules_ok C hs fun w v T rs hrs h1 h2 h3 => ?_
  obtain ⟨b1, b2⟩ := rProgram_bd (s.take 1200)
  rw [← hrs] at b1 b2
  clear hrs
  have hlf := hrd.lenV
  have fin : ∀ (f' : Fr) (w' : AW), f'.get 6 = some (.bool true) → Frm (fun _ => False) w w' → WS tab [.code .ret] f' w' fun fr' a => ∃ vs, resV fr' a k_law9_CheckRules.results = some vs ∧ (resOne vs = .bool true ∧ Ext aw.next aw a) := by
    intro f' w' f6 hf
    refine WS_ret ⟨_, by simp only [go_sem, eRun_exit, Nat.reduceAdd, Nat.reduceLT, Nat.reduceEqDiff, reduceIte, reduceCtorEq, Int.reduceBEq, Int.reduceBNe, Int.reduceLT, Int.reduceLE, Int.reduceGT, Int.reduceGE, Int.reduceEq, Int.reduceAdd, Int.reduceSub, Int.reduceMul, Nat.reduceMul, Nat.reduceSub, Nat.reduceLeDiff, k_law9_CheckRules, f6]; rfl, ?_⟩
    exact ⟨rfl, (h2.tr hf).ext (Nat.le_refl _) fun x hx => hx.elim⟩
  by_cases hg : 10 < fs.length
  · have hk : ∃ b k, fv = .slice b 0 fs.length (.known k) ∧ fs.length ≤ k := by
      rcases hsh with ⟨e, h0⟩ | ⟨b, c, e, hc⟩
      · omega
      · cases c with
        | known k => exact ⟨b, k, e, hc⟩
        | upTo z => have : fs.length = 0 := hc; omega
    obtain ⟨b, k, rfl, hk⟩ := hk
    have hsl : ∀ a : AW, a.sliceW 2 b 0 fs.length (.known k) none (some 10) none = some (.slice b 0 10 (.known k)) := by
      intro a
      have e1 : k ≤ k ∧ 10 ≤ k ∧ 0 ≤ 10 ∧ ((none : Option Nat).isSome = true → (some 10 : Option Nat).isSome = true) := ⟨Nat.le_refl _, by omega, by omega, fun h => by simp at h⟩
      have e2 : (if k = 0 then 0 else 0 + 0 * 2) = 0 := by split <;> rfl
      simp only [AW.sliceW, sliceV, Option.getD_none, Option.getD_some, if_pos e1, e2, Nat.sub_zero]
    have hd := hrd.frm h2 fun _ _ h => h
    have hf : RdL (FaC (fun _ => True)) (fun _ => True) w (.slice b 0 10 (.known k)) 2 (fs.take 10) := by
      refine ⟨xss.take 10, ?_, (all2_take 10 hall).imp fun _ _ h => h.frm h2 fun _ _ h => h⟩
      rw [flat_take 10 hall]
      have h10 : (fs.take 10).length = 10 := by rw [List.length_take]; omega
      rw [h10]
      cases hd with
      | blk hT hb hx ha hl hcs hc =>
        refine .blk hT hb hx ha (by omega) ?_ (show 10 ≤ k by omega)
        rw [hcs, List.take_take]
        congr 1; omega
    refine WS_run 1000 (by simp only [go_sem, eRun_exit, Nat.reduceAdd, Nat.reduceLT, Nat.reduceEqDiff, reduceIte, reduceCtorEq, Int.reduceBEq, Int.reduceBNe, Int.reduceLT, Int.reduceLE, Int.reduceGT, Int.reduceGE, Int.reduceEq, Int.reduceAdd, Int.reduceSub, Int.reduceMul, Nat.reduceMul, Nat.reduceSub, Nat.reduceLeDiff, k_law9_CheckRules_p14, k_law9_CheckRules_p1, hlf, hg, hsl]; rfl) ?_
    exact checkRules_rest C h1 hf b2 b1 (by rw [List.length_take]; omega) (fun f hf => hfa f (List.mem_of_mem_take hf)) (by simp only [go_sem, eRun_exit, Nat.reduceAdd, Nat.reduceLT, Nat.reduceEqDiff, reduceIte, reduceCtorEq, Int.reduceBEq, Int.reduceBNe, Int.reduceLT, Int.reduceLE, Int.reduceGT, Int.reduceGE, Int.reduceEq, Int.reduceAdd, Int.reduceSub, Int.reduceMul, Nat.reduceMul, Nat.reduceSub, Nat.reduceLeDiff] <;> rfl) (by simp only [go_sem, eRun_exit, Nat.reduceAdd, Nat.reduceLT, Nat.reduceEqDiff, reduceIte, reduceCtorEq, Int.reduceBEq, Int.reduceBNe, Int.reduceLT, Int.reduceLE, Int.reduceGT, Int.reduceGE, Int.reduceEq, Int.reduceAdd, Int.reduceSub, Int.reduceMul, Nat.reduceMul, Nat.reduceSub, Nat.reduceLeDiff] <;> rfl) (by simp only [go_sem, eRun_exit, Nat.reduceAdd, Nat.reduceLT, Nat.reduceEqDiff, reduceIte, reduceCtorEq, Int.reduceBEq, Int.reduceBNe, Int.reduceLT, Int.reduceLE, Int.reduceGT, Int.reduceGE, Int.reduceEq, Int.reduceAdd, Int.reduceSub, Int.reduceMul, Nat.reduceMul, Nat.reduceSub, Nat.reduceLeDiff] <;> rfl) (by simp only [go_sem, eRun_exit, Nat.reduceAdd, Nat.reduceLT, Nat.reduceEqDiff, reduceIte, reduceCtorEq, Int.reduceBEq, Int.reduceBNe, Int.reduceLT, Int.reduceLE, Int.reduceGT, Int.reduceGE, Int.reduceEq, Int.reduceAdd, Int.reduceSub, Int.reduceMul, Nat.reduceMul, Nat.reduceSub, Nat.reduceLeDiff] <;> rfl) fin
  · have hf : RdL (FaC (fun _ => True)) (fun _ => True) w fv 2 fs := ⟨xss, hrd.frm h2 fun _ _ h => h, hall.imp fun _ _ h => h.frm h2 fun _ _ h => h⟩
    refine WS_run 1000 (by simp only [go_sem, eRun_exit, Nat.reduceAdd, Nat.reduceLT, Nat.reduceEqDiff, reduceIte, reduceCtorEq, Int.reduceBEq, Int.reduceBNe, Int.reduceLT, Int.reduceLE, Int.reduceGT, Int.reduceGE, Int.reduceEq, Int.reduceAdd, Int.reduceSub, Int.reduceMul, Nat.reduceMul, Nat.reduceSub, Nat.reduceLeDiff, k_law9_CheckRules_p14, hlf, hg]; rfl) ?_
    refine checkRules_rest C h1 hf b2 b1 (by omega) hfa (by simp only [go_sem, eRun_exit, Nat.reduceAdd, Nat.reduceLT, Nat.reduceEqDiff, reduceIte, reduceCtorEq, Int.reduceBEq, Int.reduceBNe, Int.reduceLT, Int.reduceLE, Int.reduceGT, Int.reduceGE, Int.reduceEq, Int.reduceAdd, Int.reduceSub, Int.reduceMul, Nat.reduceMul, Nat.reduceSub, Nat.reduceLeDiff] <;> rfl) (by simp only [go_sem, eRun_exit, Nat.reduceAdd, Nat.reduceLT, Nat.reduceEqDiff, reduceIte, reduceCtorEq, Int.reduceBEq, Int.reduceBNe, Int.reduceLT, Int.reduceLE, Int.reduceGT, Int.reduceGE, Int.reduceEq, Int.reduceAdd, Int.reduceSub, Int.reduceMul, Nat.reduceMul, Nat.reduceSub, Nat.reduceLeDiff] <;> rfl) (by simp only [go_sem, eRun_exit, Nat.reduceAdd, Nat.reduceLT, Nat.reduceEqDiff, reduceIte, reduceCtorEq, Int.reduceBEq, Int.reduceBNe, Int.reduceLT, Int.reduceLE, Int.reduceGT, Int.reduceGE, Int.reduceEq, Int.reduceAdd, Int.reduceSub, Int.reduceMul, Nat.reduceMul, Nat.reduceSub, Nat.reduceLeDiff] <;> rfl) (by simp only [go_sem, eRun_exit, Nat.reduceAdd, Nat.reduceLT, Nat.reduceEqDiff, reduceIte, reduceCtorEq, Int.reduceBEq, Int.reduceBNe, Int.reduceLT, Int.reduceLE, Int.reduceGT, Int.reduceGE, Int.reduceEq, Int.reduceAdd, Int.reduceSub, Int.reduceMul, Nat.reduceMul, Nat.reduceSub, Nat.reduceLeDiff] <;> rfl) fin
end Go.Proofs.Ytjidefnbancmfaa

/- slices.Insert at this seat's element type: what stands in the midst is pushed back, in place or in a new row. (The walk is the library's worked proof at strings, turned to this type.) -/
set_option linter.unusedVariables false
set_option linter.unusedSimpArgs false
namespace Go.Proofs.Ytjidefnbancmfaa
open Go.Shelf Go.RowKit Go.Lib Go.Proofs
theorem info_facts : ∃ i0, Try.prog.info? 78 = some i0 ∧ i0.zero = some (Value.slice none 0 0) ∧ i0.size = 1 ∧ i0.bytes = 24 := ⟨(Try.prog.info? 78).get!, by kernel_rfl, by kernel_rfl, by kernel_rfl, by kernel_rfl⟩
theorem size_fact : ∀ w, (Go.sizeOf 78).run Try.prog w = .ok 1 w := fun w => by
  obtain ⟨i0, h0, _, h1, _⟩ := info_facts
  simp [sizeOf, typeInfo, h0, h1]
set_option maxHeartbeats 4000000 in
set_option maxRecDepth 100000 in
theorem ins_shift (b off n c i vb voff m vc : Nat) (cs vs : List Value) (w : World) (hi : i < n) (hm : 0 < m) (hroom : n + m ≤ c) (hc63 : n + m ≤ 9223372036854775807) (hvb : vb ≠ b)
    (hcl : cs.length = n) (hvl : vs.length = m)
    (hcs : ∀ j v, cs[j]? = some v → w.cell? ⟨b, off + j, none⟩ = some v) (hsp : ∀ j, j < n + m → (w.cell? ⟨b, off + j, none⟩).isSome = true) (hfz : ∀ j, j < n + m → w.frozen? ⟨b, off + j, none⟩ = false)
    (hvs : ∀ j v, vs[j]? = some v → w.cell? ⟨vb, voff + j, none⟩ = some v) (h1c : ∀ v ∈ cs, v.oneCell' = true) (h1v : ∀ v ∈ vs, v.oneCell' = true)
    (tA tB : TypeId) (kA kB : Nat) (hsa : w.shape? vb = some (tA, kA)) (hsb : w.shape? b = some (tB, kB)) (hkB : kB ≠ 0) (hfa : w.frozen? ⟨vb, voff, none⟩ = false) (hfe : w.frozen? ⟨vb, kA, none⟩ = false) :
    Calls Try.prog 54 #[.slice (some ⟨b, off, none⟩) n c, .int .i64 i, .slice (some ⟨vb, voff, none⟩) m vc] w fun e w' =>
      e = .returned (.slice (some ⟨b, off, none⟩) (n + m) c) ∧ w' = (w.drew.setCells b (off + (i + m)) (cs.drop i)).setCells b (off + i) vs := by
  have hz1 : ¬ ((m : Int) = 0) := by omega
  have hz2 : ¬ ((i : Int) = (n : Int)) := by omega
  have hsz : (Try.prog.info? 78).map (·.size) = some 1 := by kernel_rfl
  have hov : ∀ lb cb, (callFunc 75 #[.slice (some ⟨vb, voff, none⟩) m vc, .slice (some ⟨b, off + (i + m), none⟩) lb cb]).run Try.prog w = .ok (.value (.bool false)) w := fun lb cb => by
    rw [run_callFunc_extern Try.func75 (by kernel_rfl) (by kernel_rfl) (by kernel_rfl) (e := Extern.SlicesOverlaps.overlaps #[80, 80] #[4]) (by kernel_rfl),
      Lib.run_overlaps_apart w 80 4 78 Try.underlying80 1 size_fact ⟨vb, voff, none⟩ ⟨b, off + (i + m), none⟩ m vc lb cb hvb tA tB kA kB hsa hsb hkB hfa hfe]
    rfl
  have hdl : (cs.drop i).length = n - i := by rw [List.length_drop, hcl]
  have mixed : Try.prog.follows .mixedOrders = true := by kernel_rfl
  have hw1 : IntKind.i64.wrap ((i : Int) + (m : Int)) = (i : Int) + (m : Int) := by rw [IntKind.wrap_i64]; omega
  have hb1 : (0 : Int) ≤ (i : Int) + (m : Int) := by omega
  have hin : i ≤ n := by omega
  have htn : ((i : Int) + (m : Int)).toNat = i + m := by omega
  have hb2 : ¬ (c = i + m) := by omega
  have hb3 : (i : Int) ≤ (n : Int) + (m : Int) := by omega
  have hb4 : ¬ (c = i) := by omega
  have hcp1 : ∀ ty dc sc, (Builtin.copy_ #[80, 80] ty #[.slice (some ⟨b, off + (i + m), none⟩) (n + m - (i + m)) dc, .slice (some ⟨b, off + i, none⟩) (n + m - i) sc]).run Try.prog w.drew = .ok (goInt (cs.drop i).length) (w.drew.setCells b (off + (i + m)) (cs.drop i)) := fun ty dc sc =>
    run_copy_cells w.drew _ _ ty 78 b (off + (i + m)) (n + m - (i + m)) dc ⟨b, off + i, none⟩ (n + m - i) sc (cs.drop i) Try.underlying80 hsz (by rw [hdl]; simp only [Nat.min_def]; split <;> omega)
      (fun j v hj => by rw [Addr.add_lit, Nat.add_assoc]; exact hcs (i + j) v (by rwa [List.getElem?_drop] at hj))
      (fun j hj => by rw [Nat.add_assoc]; exact hsp _ (by omega)) (fun j hj => by rw [Nat.add_assoc]; exact hfz _ (by omega)) (fun v hv => h1c v (List.mem_of_mem_drop hv))
  obtain ⟨W1, hW1⟩ : ∃ W1, W1 = w.drew.setCells b (off + (i + m)) (cs.drop i) := ⟨_, rfl⟩
  have hsp1 : ∀ k, k < n + m → (W1.cell? ⟨b, off + k, none⟩).isSome = true := fun k hk => by
    rw [hW1]
    exact isSome_setCells b _ _ _ (fun j hj => by rw [Nat.add_assoc]; exact hsp _ (by omega)) _ (hsp k hk)
  have hcp2 : ∀ (W : World), (∀ x, W.cell? x = W1.cell? x) → (∀ x, W.frozen? x = W1.frozen? x) → ∀ ty dc, (Builtin.copy_ #[80, 80] ty #[.slice (some ⟨b, off + i, none⟩) (n + m - i) dc, .slice (some ⟨vb, voff, none⟩) m vc]).run Try.prog W = .ok (goInt vs.length) (W.setCells b (off + i) vs) := fun W hWc hWf ty dc =>
    run_copy_cells W _ _ ty 78 b (off + i) (n + m - i) dc ⟨vb, voff, none⟩ m vc vs Try.underlying80 hsz (by rw [hvl]; simp only [Nat.min_def]; split <;> omega)
      (fun j v hj => by
        rw [Addr.add_lit, hWc, hW1, World.cell?_setCells_out b _ _ _ _ (fun h _ => absurd h hvb)]
        exact hvs j v hj)
      (fun j hj => by rw [hWc, Nat.add_assoc]; exact hsp1 _ (by omega)) (fun j hj => by rw [hWf, hW1, World.frozen?_setCells, Nat.add_assoc]; exact hfz _ (by omega)) h1v
  rw [← hW1] at hcp1
  go_enter Try.func54, Try.ntmps54
  go_wp2_with (simp only [hov])
  go_region_law_o (refine step_copy_runI rfl _ _ 80 80 rfl _ _ (by simp [Act.eval, Act.put]) (by simp [Act.eval, Act.put]) (hcp1 _ _ _) ?_)
  go_wp2_with (at_builtin; refine wpList_copy_runI _ rfl _ _ 80 80 rfl _ _ rfl rfl (hcp2 _ (fun _ => rfl) (fun _ => rfl) _ _) ?_)
  go_ret
  first | exact ⟨rfl, rfl⟩ | exact ⟨rfl, by rw [hW1]⟩

set_option maxHeartbeats 4000000 in
set_option maxRecDepth 100000 in
theorem ins_grow (b off n c i vb voff m vc : Nat) (cs vs : List Value) (w : World) (hi : i < n) (hm : 0 < m) (hnc : n ≤ c) (hroom : c < n + m) (hbig : (n + m) * 24 ≤ 140737488355328)
    (hcl : cs.length = n) (hvl : vs.length = m)
    (hcs : ∀ j v, cs[j]? = some v → w.cell? ⟨b, off + j, none⟩ = some v)
    (hvs : ∀ j v, vs[j]? = some v → w.cell? ⟨vb, voff + j, none⟩ = some v) (h1c : ∀ v ∈ cs, v.oneCell' = true) (h1v : ∀ v ∈ vs, v.oneCell' = true) :
    Calls Try.prog 54 #[.slice (some ⟨b, off, none⟩) n c, .int .i64 i, .slice (some ⟨vb, voff, none⟩) m vc] w fun e w' =>
      e = .returned (.slice (some ⟨w.heap.size, 0, none⟩) (n + m) (grownCap w (n + m) c 78)) ∧
      w' = (((w.alloc (.cells ((cs.take i).toArray ++ Builtin.zeroCells (Value.slice none 0 0).cells (n + m - i) ++ Builtin.zeroCells (Value.slice none 0 0).cells (grownCap w (n + m) c 78 - (n + m))) 78)).drew.setCells w.heap.size i vs).drew).setCells w.heap.size (i + m) (cs.drop i) := by
  have mixed : Try.prog.follows .mixedOrders = true := by kernel_rfl
  obtain ⟨i0, hi0, hz0, hzs, hzb⟩ := info_facts
  have hz1 : ¬ ((m : Int) = 0) := by omega
  have hz2 : ¬ ((i : Int) = (n : Int)) := by omega
  have hz3 : (c : Int) < (n : Int) + (m : Int) := by omega
  have hsz : (Try.prog.info? 78).map (·.size) = some 1 := by rw [hi0]; simp [hzs]
  have hbw : b < w.heap.size := block_lt_of_cell (hcs 0 _ (List.getElem?_eq_getElem (by omega)))
  have hvw : vb < w.heap.size := block_lt_of_cell (hvs 0 _ (List.getElem?_eq_getElem (by omega)))
  have hkk : (n : Int) + (m : Int) - (i : Int) = ((n + m - i : Nat) : Int) := by omega
  have hik : i + (n + m - i) = n + m := by omega
  have hold : (Builtin.firstCells i0.size i (.slice (some ⟨b, off, none⟩) i c)).run Try.prog w.drew = .ok (cs.take i).toArray w.drew := by
    rw [hzs]
    exact run_firstCells_some w.drew 1 i ⟨b, off, none⟩ i c (cs.take i) (by rw [List.length_take]; omega) (fun j v hj => by
      rw [Addr.add_lit]
      rw [List.getElem?_take] at hj
      split at hj
      · exact hcs j v hj
      · cases hj)
  have hrz : ∀ ty, (Builtin.append_ #[80, 3] ty #[.slice (some ⟨b, off, none⟩) i c, .int .i64 ((n : Int) + (m : Int) - (i : Int))]).run Try.prog w =
      .ok (.slice (some ⟨w.heap.size, 0, none⟩) (n + m) (grownCap w (n + m) c 78)) (w.drew.alloc (.cells ((cs.take i).toArray ++ Builtin.zeroCells (Value.slice none 0 0).cells (n + m - i) ++ Builtin.zeroCells (Value.slice none 0 0).cells (grownCap w (n + m) c 78 - (n + m))) 78)) := fun ty => by
    have h := Lib.run_append_grow_zeros w 80 3 ty 78 i0 _ .i64 .i64 Try.underlying80 Try.underlying3 hi0 hz0 (some ⟨b, off, none⟩) i c (cs.take i) hold (n + m - i) (by omega) (by omega) (by omega) (by omega) (by rw [hzb]; omega) (by rw [hzb, hik]; exact growslice_fits hroom hbig)
    rw [hik] at h
    rw [hkk]
    exact h
  obtain ⟨G, hG⟩ : ∃ G, G = grownCap w (n + m) c 78 := ⟨_, rfl⟩
  obtain ⟨ROW, hROW⟩ : ∃ ROW : Array Value, ROW = (cs.take i).toArray ++ Builtin.zeroCells (Value.slice none 0 0).cells (n + m - i) ++ Builtin.zeroCells (Value.slice none 0 0).cells (G - (n + m)) := ⟨_, rfl⟩
  rw [← hG] at hrz ⊢
  rw [← hROW] at hrz ⊢
  have hRl : n + m ≤ ROW.size := by
    rw [hROW]
    simp [Builtin.zeroCells, Value.cells]
    omega
  obtain ⟨W1, hW1⟩ : ∃ W1, W1 = w.drew.alloc (.cells ROW 78) := ⟨_, rfl⟩
  rw [← hW1] at hrz
  have hN : ∀ j, j < n + m → (W1.cell? ⟨w.heap.size, j, none⟩).isSome = true := fun j hj => by
    rw [hW1, World.cell?_alloc_at (w := w.drew) ROW _ w.heap.size j rfl, Array.getElem?_eq_getElem (by omega)]; rfl
  have hNf : ∀ j, W1.frozen? ⟨w.heap.size, j, none⟩ = false := fun j => by rw [hW1]; exact World.frozen?_alloc_at (w := w.drew) ROW _ w.heap.size j rfl
  have hOb : ∀ j v, w.cell? ⟨b, j, none⟩ = some v → W1.cell? ⟨b, j, none⟩ = some v := fun j v h => by rw [hW1, World.cell?_alloc_past (w := w.drew) _ b j hbw]; exact h
  have hOv : ∀ j v, w.cell? ⟨vb, j, none⟩ = some v → W1.cell? ⟨vb, j, none⟩ = some v := fun j v h => by rw [hW1, World.cell?_alloc_past (w := w.drew) _ vb j hvw]; exact h
  have hcpA : ∀ (W : World), (∀ x, W.cell? x = W1.cell? x) → (∀ x, W.frozen? x = W1.frozen? x) → ∀ ty dc, (Builtin.copy_ #[80, 80] ty #[.slice (some ⟨w.heap.size, i, none⟩) (n + m - i) dc, .slice (some ⟨vb, voff, none⟩) m vc]).run Try.prog W = .ok (goInt vs.length) (W.setCells w.heap.size i vs) := fun W hWc hWf ty dc =>
    run_copy_cells W _ _ ty 78 w.heap.size i (n + m - i) dc ⟨vb, voff, none⟩ m vc vs Try.underlying80 hsz (by rw [hvl]; simp only [Nat.min_def]; split <;> omega)
      (fun j v hj => by rw [Addr.add_lit, hWc]; exact hOv _ v (hvs j v hj))
      (fun j hj => by rw [hWc]; exact hN _ (by omega)) (fun j hj => by rw [hWf]; exact hNf _) h1v
  have hGn : n + m ≤ G := by rw [hG]; exact grownCap_ge w _ _ _
  have hG63 : G ≤ 9223372036854775807 := by
    have := grownCap_le_maxLen w (n + m) c 78 (by unfold maxLen; omega)
    rw [← hG] at this
    unfold maxLen at this
    omega
  have hGi : ¬ (G = i) := by omega
  have hGim : ¬ (G = i + m) := by omega
  have hci : ¬ (c = i) := by omega
  have hbN : b ≠ w.heap.size := by omega
  have hdl : (cs.drop i).length = n - i := by rw [List.length_drop, hcl]
  have hcpB : ∀ (W : World), (∀ x, W.cell? x = (W1.setCells w.heap.size i vs).cell? x) → (∀ x, W.frozen? x = (W1.setCells w.heap.size i vs).frozen? x) → ∀ ty dc sc, (Builtin.copy_ #[80, 80] ty #[.slice (some ⟨w.heap.size, i + m, none⟩) (n + m - (i + m)) dc, .slice (some ⟨b, off + i, none⟩) (n - i) sc]).run Try.prog W = .ok (goInt (cs.drop i).length) (W.setCells w.heap.size (i + m) (cs.drop i)) := fun W hWc hWf ty dc sc =>
    run_copy_cells W _ _ ty 78 w.heap.size (i + m) (n + m - (i + m)) dc ⟨b, off + i, none⟩ (n - i) sc (cs.drop i) Try.underlying80 hsz (by rw [hdl]; simp only [Nat.min_def]; split <;> omega)
      (fun j v hj => by
        rw [Addr.add_lit, hWc, World.cell?_setCells_out _ _ _ _ _ (fun h _ => absurd h hbN), Nat.add_assoc]
        exact hOb _ v (hcs (i + j) v (by rwa [List.getElem?_drop] at hj)))
      (fun j hj => by rw [hWc]; exact isSome_setCells _ _ _ _ (fun t ht => hN _ (by omega)) _ (hN _ (by omega)))
      (fun j hj => by rw [hWf, World.frozen?_setCells]; exact hNf _) (fun v hv => h1c v (List.mem_of_mem_drop hv))
  subst hW1
  have hE1 : ∀ x, ((w.alloc (.cells ROW 78)).drew).cell? x = (w.drew.alloc (.cells ROW 78)).cell? x := fun x => rfl
  have hE2 : ∀ x, ((w.alloc (.cells ROW 78)).drew).frozen? x = (w.drew.alloc (.cells ROW 78)).frozen? x := fun x => rfl
  have hF1 : ∀ x, (((w.alloc (.cells ROW 78)).drew.setCells w.heap.size i vs).drew).cell? x = ((w.drew.alloc (.cells ROW 78)).setCells w.heap.size i vs).cell? x := fun x => rfl
  have hF2 : ∀ x, (((w.alloc (.cells ROW 78)).drew.setCells w.heap.size i vs).drew).frozen? x = ((w.drew.alloc (.cells ROW 78)).setCells w.heap.size i vs).frozen? x := fun x => rfl
  have hw1 : IntKind.i64.wrap ((i : Int) + (m : Int)) = (i : Int) + (m : Int) := by rw [IntKind.wrap_i64]; omega
  have hb1 : (0 : Int) ≤ (i : Int) + (m : Int) := by omega
  have hin : i ≤ n := by omega
  have htn : ((i : Int) + (m : Int)).toNat = i + m := by omega
  have hb3 : (i : Int) ≤ (n : Int) := by omega
  clear hkk hik hold hROW hG hRl
  go_enter Try.func54, Try.ntmps54
  go_wp2_with (first
    | (at_builtin; refine Lib.wpList_append_run _ rfl _ _ _ _ rfl _ _ rfl rfl _ _ (hrz _) ?_)
    | (at_builtin; refine wpList_copy_runI _ rfl _ _ 80 80 rfl _ _ rfl rfl (hcpA _ hE1 hE2 _ _) ?_)
    | (at_builtin; refine wpList_copy_runI _ rfl _ _ 80 80 rfl _ _ rfl rfl (hcpB _ (fun _ => rfl) (fun _ => rfl) _ _ _) ?_))
  go_region_law_o (refine step_copy_runI rfl _ _ 80 80 rfl (.slice (some ⟨w.heap.size, i + m, none⟩) (n + m - (i + m)) (G - (i + m))) (.slice (some ⟨b, off + i, none⟩) (n - i) (c - i)) (by simp [Act.eval, Act.put]) (by simp [Act.eval, Act.put]) (hcpB _ hF1 hF2 3 (G - (i + m)) (c - i)) ?_)
  go_wp2
  go_ret
  exact ⟨rfl, rfl⟩

end Go.Proofs.Ytjidefnbancmfaa

/- The seat's table: what functions do; begun laws. -/
set_option linter.unusedVariables false
namespace Go.Proofs.Ytjidefnbancmfaa
open Go.AE
def baseT (P : Program) : XTab where
  code := (XTab.of P).code
  prim f args aw := match f with
    | 54 => insPrim 24 args aw
    | _ => none
  ext f args aw := match f with
    | 96 => extIdx args
    | _ => none
theorem base_ok : TabOK Try.prog (baseT Try.prog).tab where
  mixed := by kernel_rfl
  code := (XTab.of_ok (P := Try.prog) (by kernel_rfl)).code
  prim f args aw v aw' h := by
    simp only [XTab.tab, baseT] at h
    split at h
    · refine ⟨⟨_, Try.func54, by kernel_rfl, by decide +kernel⟩, fun w m base args' hR hargs => ?_⟩
      exact insPrim_ok (te := 78) (zero := Value.slice none 0 0) (fun b off n c i vb voff m vc cs vs w => ins_shift b off n c i vb voff m vc cs vs w) (fun b off n c i vb voff m vc cs vs w => ins_grow b off n c i vb voff m vc cs vs w) rfl h w m base args' hR hargs
    · cases h
  ext f args aw v h w m base args' hR hargs := by
    simp only [XTab.tab, baseT] at h
    split at h
    · exact extIdx_ok Try.func96 (by kernel_rfl) (by kernel_rfl) (by kernel_rfl) (by kernel_rfl) h w m args' hargs
    · cases h
/-- a closed run, told of any state. -/
theorem begun_good {f : Nat} (hf : ∃ fn, Try.prog.funcs[f]? = some fn ∧ fn.body.isSome = true ∧ fn.name ≠ "runtime.NumGoroutine") (h : isTrue (xCall (baseT Try.prog) (xRunK (baseT Try.prog) 100000) f [] AW.empty) = true) (aw : AW) : GoodC Try.prog f [] aw (.bool true) aw := by
  refine ⟨hf, fun w m base args' hR hargs => ?_⟩
  have hz : args' = #[] := by cases args'; cases hargs; rfl
  subst hz
  refine (closed_ok base_ok (runK_true h) w).mono ?_
  rintro e w' ⟨rfl, hb⟩
  obtain ⟨h1, h2⟩ := hR.below hb
  exact ⟨.bool true, m, rfl, rfl, h1, h2⟩
def tabW (P : Program) (L : List Nat) : Tab where
  code := (XTab.of P).code
  prim f args aw v aw' := (baseT P).tab.prim f args aw v aw' ∨ (f ∈ L ∧ args = [] ∧ v = .bool true ∧ aw' = aw)
  ext := (baseT P).tab.ext
theorem tabW_ok {L : List Nat} (hL : ∀ f ∈ L, ∀ aw, GoodC Try.prog f [] aw (.bool true) aw) : TabOK Try.prog (tabW Try.prog L) where
  mixed := base_ok.mixed
  code := base_ok.code
  prim f args aw v aw' h := by
    rcases h with h | ⟨h1, rfl, rfl, rfl⟩
    · exact base_ok.prim f args aw v aw' h
    · exact hL f h1 _
  ext := base_ok.ext
theorem codesW (L : List Nat) : Codes (tabW Try.prog L) := codesOf rfl
end Go.Proofs.Ytjidefnbancmfaa

/- The law's beginning, carried out. -/
namespace Go.Proofs.Ytjidefnbancmfaa
open Go.AE
theorem run13 : isTrue (xCall (baseT Try.prog) (xRunK (baseT Try.prog) 100000) 13 [] AW.empty) = true := by kernel_rfl
theorem good13 (aw : AW) : GoodC Try.prog 13 [] aw (.bool true) aw := begun_good ⟨_, Try.func13, by kernel_rfl, by decide +kernel⟩ run13 aw
end Go.Proofs.Ytjidefnbancmfaa
