/- A part of the proof: PSyn5, PSyn6, PSyn7, XSyn2. -/
import Derived.Test.YtjidefnbancmfaaKrJ
import Derived.Test.YtjidefnbancmfaaKrH
/- The reference's parser: literals. -/
set_option linter.unusedVariables false
set_option maxRecDepth 10000
set_option linter.unusedSimpArgs false
namespace Go.Proofs.Ytjidefnbancmfaa
open Go.AE Delphi
variable {tab : Tab}
theorem tms_of {T : Nat → Prop} {w : AW} {b : Nat} {l : List Tm} (hT : T b) (h : CB w b (tmsC l)) : Rd T w (.slice b 0 l.length (.known l.length)) 3 l.length (tmsC l) := by
  have hl : (tmsC l).length = l.length * 3 := flat_len tmC_len l
  exact .blk hT h.lt h.get (.inl rfl) (by omega) (by rw [List.drop_zero, List.take_of_length_le (by omega)]) (Nat.le_refl _)
set_option maxHeartbeats 1000000 in
/-- literal. -/
theorem plit_ok (C : Codes tab) {Tw : Nat → Prop} {bp k e : Nat} {wv : V} {ws : List Wd} {aw : AW} {K : V → AW → Prop} (hp : PSt aw bp wv k e) (hw : Wds Tw aw bp wv ws) (hok : ∀ x ∈ ws, WOk x) (hT : ∀ x, Tw x → x < aw.next) (hk : k ≤ ws.length)
    (h : ∀ w T xs, PSt w bp wv (rLit ws k e).2.1 (rLit ws k e).2.2 → Frm (fun b => b = bp) aw w → LtC T w (rLit ws k e).1 xs → (∀ x, T x → aw.next ≤ x ∧ x < w.next) → K (.agg xs) w) : WF tab n_ref8_P_literal [.ptr bp 0] aw K := by
  refine WF_of C.c_ref8_P_literal rfl ?_
  have hlt := hp.lt
  have hne : ¬ aw.next = bp := by omega
  have hwl := hw.len
  obtain ⟨zs, hzs⟩ : ∃ zs, zs = [V.int .i64 0, V.str [], V.nilslice] := ⟨_, rfl⟩
  have hp1 := hp.frm (fresh_frm (S := fun _ => False) aw zs) fun h => h
  have hw1 := hw.frm (fresh_frm (S := fun _ => False) aw zs) fun _ _ h => h
  have hT1 : ∀ x, Tw x → x < (aw.fresh zs).next := fun x hx => Nat.lt_succ_of_lt (hT x hx)
  have l0 := hp1.l0
  have l1 := hp1.l1
  have l2 := hp1.l2
  have hzl : zs.length = 3 := by rw [hzs]; rfl
  have hc0 := fresh_cb aw zs
  have hlv := hw1.rd.lenV
  -- the end
  have fine : ∀ (w : AW) (k' e' : Nat) (l : Lt) (T : Nat → Prop) (xs : List V), PSt w bp wv k' e' → Frm (fun b => b = bp) (aw.fresh zs) w → rLit ws k e = (l, k', e') → LtC T w l xs → (∀ x, T x → aw.next < x ∧ x < w.next) → K (.agg xs) (w.put aw.next xs) := by
    intro w k' e' l T xs h1 h2 h3 h4 h5
    rw [h3] at h
    exact h _ T xs (h1.frm put_frm (fun h => hne h.symm)) ((fresh_frm (S := fun b => b = bp) aw zs).tr h2 |>.out (Nat.le_refl _) rfl) (h4.frm put_frm fun x hx he => by have := (h5 x hx).1; omega) fun x hx => ⟨by have := (h5 x hx).1; omega, (h5 x hx).2⟩
  refine WS_run 1000 (by simp only [go_sem, eRun_exit, Nat.reduceAdd, Nat.reduceLT, Nat.reduceEqDiff, reduceIte, reduceCtorEq, Int.reduceBEq, Int.reduceBNe, Int.reduceLT, Int.reduceLE, Int.reduceGT, Int.reduceGE, Int.reduceEq, Int.reduceAdd, Int.reduceSub, Int.reduceMul, Nat.reduceMul, Nat.reduceSub, Nat.reduceLeDiff, k_ref8_P_literal, ← hzs]; rfl) ?_
  refine WS_call (by simp only [go_sem, eRun_exit, Nat.reduceAdd, Nat.reduceLT, Nat.reduceEqDiff, reduceIte, reduceCtorEq, Int.reduceBEq, Int.reduceBNe, Int.reduceLT, Int.reduceLE, Int.reduceGT, Int.reduceGE, Int.reduceEq, Int.reduceAdd, Int.reduceSub, Int.reduceMul, Nat.reduceMul, Nat.reduceSub, Nat.reduceLeDiff]) (by simp only [go_sem, eRun_exit, Nat.reduceAdd, Nat.reduceLT, Nat.reduceEqDiff, reduceIte, reduceCtorEq, Int.reduceBEq, Int.reduceBNe, Int.reduceLT, Int.reduceLE, Int.reduceGT, Int.reduceGE, Int.reduceEq, Int.reduceAdd, Int.reduceSub, Int.reduceMul, Nat.reduceMul, Nat.reduceSub, Nat.reduceLeDiff]; rfl) ?_
  refine psign_ok C hp1 hw1 ?_
  cases hs : rSign ws k [33] with
  | true =>
    have hks := rSign_lt hs
    have hwr : IntKind.wrap .i64 (Int.ofNat k + 1) = Int.ofNat (k + 1) := wrap_succ (by omega)
    have s1 := hp1.cb.set (i := 1) (v := .int .i64 (Int.ofNat (k + 1))) (by simp) rfl
    have hp2 : PSt ((aw.fresh zs).put bp ([wv, .int .i64 (Int.ofNat k), .int .i64 (Int.ofNat e)].set 1 (.int .i64 (Int.ofNat (k + 1))))) bp wv (k + 1) e := ⟨hp1.lt, AE.T.get_put_same⟩
    have r2 : Frm (fun b => b = bp) (aw.fresh zs) ((aw.fresh zs).put bp ([wv, .int .i64 (Int.ofNat k), .int .i64 (Int.ofNat e)].set 1 (.int .i64 (Int.ofNat (k + 1))))) := put_frm
    generalize (aw.fresh zs).put bp ([wv, .int .i64 (Int.ofNat k), .int .i64 (Int.ofNat e)].set 1 (.int .i64 (Int.ofNat (k + 1)))) = w2 at s1 hp2 r2
    have hw2 := hw1.frm r2 fun y hy he => hw1.no (he ▸ hy)
    refine WS_run 1000 (by simp only [go_sem, eRun_exit, Nat.reduceAdd, Nat.reduceLT, Nat.reduceEqDiff, reduceIte, reduceCtorEq, Int.reduceBEq, Int.reduceBNe, Int.reduceLT, Int.reduceLE, Int.reduceGT, Int.reduceGE, Int.reduceEq, Int.reduceAdd, Int.reduceSub, Int.reduceMul, Nat.reduceMul, Nat.reduceSub, Nat.reduceLeDiff, k_ref8_P_literal_p0, k_ref8_P_literal_p1, k_ref8_P_literal, ← hzs, l1, hwr, s1, List.length_cons, List.length_nil]; rfl) ?_
    refine WS_call (by simp only [go_sem, eRun_exit, Nat.reduceAdd, Nat.reduceLT, Nat.reduceEqDiff, reduceIte, reduceCtorEq, Int.reduceBEq, Int.reduceBNe, Int.reduceLT, Int.reduceLE, Int.reduceGT, Int.reduceGE, Int.reduceEq, Int.reduceAdd, Int.reduceSub, Int.reduceMul, Nat.reduceMul, Nat.reduceSub, Nat.reduceLeDiff]) (by simp only [go_sem, eRun_exit, Nat.reduceAdd, Nat.reduceLT, Nat.reduceEqDiff, reduceIte, reduceCtorEq, Int.reduceBEq, Int.reduceBNe, Int.reduceLT, Int.reduceLE, Int.reduceGT, Int.reduceGE, Int.reduceEq, Int.reduceAdd, Int.reduceSub, Int.reduceMul, Nat.reduceMul, Nat.reduceSub, Nat.reduceLeDiff]; rfl) ?_
    refine patom_ok C hp2 hw2 hok (fun x hx => Nat.lt_of_lt_of_le (hT1 x hx) r2.next) hks fun w3 T xs q1 q2 q3 q4 => ?_
    obtain ⟨xl, xo⟩ := q3.one
    obtain ⟨v, rfl, hv⟩ := q3
    obtain ⟨w4, s4, c4, r4, n4⟩ := boxed w3 (zs := zs) (vs := [.int .i64 (Int.ofNat (rAtom ws (k + 1) e).1.kind), .str (rAtom ws (k + 1) e).1.name, v]) hzl xo
    have st := c4.set (i := 0) (v := .int .i64 2) (by simp) rfl
    have f34 : Frm (fun _ => False) w3 (w4.put w3.next [.int .i64 2, .str (rAtom ws (k + 1) e).1.name, v]) := r4.out (Nat.le_refl _) rfl
    have la := (put_cb (l := [.int .i64 2, .str (rAtom ws (k + 1) e).1.name, v]) c4.lt).all (n := 3) rfl
    have f14 : Frm (fun b => b = bp) (aw.fresh zs) (w4.put w3.next [.int .i64 2, .str (rAtom ws (k + 1) e).1.name, v]) := (r2.tr q2).tr f34.no
    have cr := hc0.frm f14 hne
    have vone : allOne [V.int .i64 2, .str (rAtom ws (k + 1) e).1.name, v] = true := xo
    have hst := cr.setAll (vs := [V.int .i64 2, .str (rAtom ws (k + 1) e).1.name, v]) hzl vone
    have hrl := (put_cb (l := [V.int .i64 2, .str (rAtom ws (k + 1) e).1.name, v]) cr.lt).all (n := 3) rfl
    have hr : rLit ws k e = ({ (rAtom ws (k + 1) e).1 with kind := 2 }, (rAtom ws (k + 1) e).2.1, (rAtom ws (k + 1) e).2.2) := by
      simp only [rLit]; rw [if_pos hs]
    refine WS_run 1000 (by simp only [go_sem, eRun_exit, Nat.reduceAdd, Nat.reduceLT, Nat.reduceEqDiff, reduceIte, reduceCtorEq, Int.reduceBEq, Int.reduceBNe, Int.reduceLT, Int.reduceLE, Int.reduceGT, Int.reduceGE, Int.reduceEq, Int.reduceAdd, Int.reduceSub, Int.reduceMul, Nat.reduceMul, Nat.reduceSub, Nat.reduceLeDiff, s4, st, la, hst, List.length_cons, List.length_nil, List.set_cons_zero]; rfl) ?_
    refine WS_ret ⟨_, by simp only [go_sem, eRun_exit, Nat.reduceAdd, Nat.reduceLT, Nat.reduceEqDiff, reduceIte, reduceCtorEq, Int.reduceBEq, Int.reduceBNe, Int.reduceLT, Int.reduceLE, Int.reduceGT, Int.reduceGE, Int.reduceEq, Int.reduceAdd, Int.reduceSub, Int.reduceMul, Nat.reduceMul, Nat.reduceSub, Nat.reduceLeDiff, k_ref8_P_literal, hrl]; rfl, ?_⟩
    have nn := r2.next
    exact fine _ _ _ _ T _ (q1.frm f34 fun h => h) f14 hr ⟨v, rfl, hv.frm f34 fun _ _ h => h⟩ fun x hx => by
      obtain ⟨m1, m2⟩ := q4 x hx
      have e1 : (aw.fresh zs).next = aw.next + 1 := rfl
      have := f34.next
      exact ⟨by omega, by omega⟩
  | false =>
  -- an atom
  have atomP : ∀ {s : List SI} {fr : Fr}, rLit ws k e = rAtom ws k e → fr.get 0 = some (.ptr bp 0) → fr.get 2 = some (.ptr aw.next 0) → WS tab (.code k_ref8_P_literal_p2 :: s) fr (aw.fresh zs) (fun fr' aw' => ∃ vs, resV fr' aw' k_ref8_P_literal.results = some vs ∧ K (resOne vs) aw') := by
    intro s fr hr f0 f2
    refine WS_run 1000 (by simp only [go_sem, eRun_exit, Nat.reduceAdd, Nat.reduceLT, Nat.reduceEqDiff, reduceIte, reduceCtorEq, Int.reduceBEq, Int.reduceBNe, Int.reduceLT, Int.reduceLE, Int.reduceGT, Int.reduceGE, Int.reduceEq, Int.reduceAdd, Int.reduceSub, Int.reduceMul, Nat.reduceMul, Nat.reduceSub, Nat.reduceLeDiff, k_ref8_P_literal_p2, f0, f2]; rfl) ?_
    refine WS_call (by simp only [go_sem, eRun_exit, Nat.reduceAdd, Nat.reduceLT, Nat.reduceEqDiff, reduceIte, reduceCtorEq, Int.reduceBEq, Int.reduceBNe, Int.reduceLT, Int.reduceLE, Int.reduceGT, Int.reduceGE, Int.reduceEq, Int.reduceAdd, Int.reduceSub, Int.reduceMul, Nat.reduceMul, Nat.reduceSub, Nat.reduceLeDiff]) (by simp only [go_sem, eRun_exit, Nat.reduceAdd, Nat.reduceLT, Nat.reduceEqDiff, reduceIte, reduceCtorEq, Int.reduceBEq, Int.reduceBNe, Int.reduceLT, Int.reduceLE, Int.reduceGT, Int.reduceGE, Int.reduceEq, Int.reduceAdd, Int.reduceSub, Int.reduceMul, Nat.reduceMul, Nat.reduceSub, Nat.reduceLeDiff]; rfl) ?_
    refine patom_ok C hp1 hw1 hok hT1 hk fun w3 T xs q1 q2 q3 q4 => ?_
    obtain ⟨xl, xo⟩ := q3.one
    have cr := hc0.frm q2 hne
    have hst := cr.setAll (vs := xs) (by rw [hzl, xl]) xo
    have hrl := (put_cb (l := xs) cr.lt).all (n := 3) xl
    refine WS_run 1000 (by simp only [go_sem, eRun_exit, Nat.reduceAdd, Nat.reduceLT, Nat.reduceEqDiff, reduceIte, reduceCtorEq, Int.reduceBEq, Int.reduceBNe, Int.reduceLT, Int.reduceLE, Int.reduceGT, Int.reduceGE, Int.reduceEq, Int.reduceAdd, Int.reduceSub, Int.reduceMul, Nat.reduceMul, Nat.reduceSub, Nat.reduceLeDiff, f0, f2, xl, hst]; rfl) ?_
    refine WS_ret ⟨_, by simp only [go_sem, eRun_exit, Nat.reduceAdd, Nat.reduceLT, Nat.reduceEqDiff, reduceIte, reduceCtorEq, Int.reduceBEq, Int.reduceBNe, Int.reduceLT, Int.reduceLE, Int.reduceGT, Int.reduceGE, Int.reduceEq, Int.reduceAdd, Int.reduceSub, Int.reduceMul, Nat.reduceMul, Nat.reduceSub, Nat.reduceLeDiff, k_ref8_P_literal, f2, hrl]; rfl, ?_⟩
    exact fine _ _ _ _ T _ q1 q2 hr q3 fun x hx => by
      obtain ⟨m1, m2⟩ := q4 x hx
      have e1 : (aw.fresh zs).next = aw.next + 1 := rfl
      exact ⟨by omega, m2⟩
  -- a term, and what is behind it
  have termP : ∀ {s : List SI} {fr : Fr}, ¬ (rKind ws k = 1 ∧ rCmpAt ws (k + 1) = 0) → fr.get 0 = some (.ptr bp 0) → fr.get 2 = some (.ptr aw.next 0) → fr.get 91 = some (.ptr bp 0) →
      WS tab (.ops [⟨some 92, none, .call (.const (.func (.func n_ref8_P_term) [] [])) [(.tmp 91)]⟩, ⟨some 4, none, .alloc [(.int .i64 0), (.str []), (.int .i64 0)]⟩, ⟨none, none, .store 3 (.tmp 4) (.tmp 92)⟩] :: .code k_ref8_P_literal_p7 :: s) fr (aw.fresh zs) (fun fr' aw' => ∃ vs, resV fr' aw' k_ref8_P_literal.results = some vs ∧ K (resOne vs) aw') := by
    intro s fr hna f0 f2 f91
    refine WS_call (by simp only [wanted_none]) (by simp only [go_sem, f91]; rfl) ?_
    refine pterm_ok C hp1 hw1 hok hT1 fun w1 q1 q2 => ?_
    have hk1 := rTerm_le (e := e) hk
    generalize hrt : rTerm ws k e = rt at q1 hk1
    obtain ⟨t, k1, e1⟩ := rt
    simp only at q1 hk1
    obtain ⟨w2, s2, c2, r2, n2⟩ := boxed w1 (zs := [V.int .i64 0, V.str [], V.int .i64 0]) (vs := tmC t) rfl rfl
    have p2 := q1.frm r2 fun h => h
    have f12 : Frm (fun b => b = bp) (aw.fresh zs) w2 := q2.tr r2.no
    have hw2 := hw1.frm f12 fun y hy he => hw1.no (he ▸ hy)
    have res2 := hc0.frm f12 hne
    have e1n : (aw.fresh zs).next = aw.next + 1 := rfl
    have nq := q2.next
    have m0 := p2.l0
    have m1 := p2.l1
    have m2 := p2.l2
    have hlv2 := hw2.rd.lenV
    refine WS_runB 1000 (by simp only [go_sem, eRun_exit, Nat.reduceAdd, Nat.reduceLT, Nat.reduceEqDiff, reduceIte, reduceCtorEq, Int.reduceBEq, Int.reduceBNe, Int.reduceLT, Int.reduceLE, Int.reduceGT, Int.reduceGE, Int.reduceEq, Int.reduceAdd, Int.reduceSub, Int.reduceMul, Nat.reduceMul, Nat.reduceSub, Nat.reduceLeDiff, s2, tmC_len, f0, f2]; rfl) ?_
    have g0 : ((fr.put 92 (.agg (tmC t))).put 4 (.ptr w1.next 0)).get 0 = some (.ptr bp 0) := (by simp only [go_sem, eRun_exit, Nat.reduceAdd, Nat.reduceLT, Nat.reduceEqDiff, reduceIte, reduceCtorEq, Int.reduceBEq, Int.reduceBNe, Int.reduceLT, Int.reduceLE, Int.reduceGT, Int.reduceGE, Int.reduceEq, Int.reduceAdd, Int.reduceSub, Int.reduceMul, Nat.reduceMul, Nat.reduceSub, Nat.reduceLeDiff, f0] <;> rfl)
    have g2 : ((fr.put 92 (.agg (tmC t))).put 4 (.ptr w1.next 0)).get 2 = some (.ptr aw.next 0) := (by simp only [go_sem, eRun_exit, Nat.reduceAdd, Nat.reduceLT, Nat.reduceEqDiff, reduceIte, reduceCtorEq, Int.reduceBEq, Int.reduceBNe, Int.reduceLT, Int.reduceLE, Int.reduceGT, Int.reduceGE, Int.reduceEq, Int.reduceAdd, Int.reduceSub, Int.reduceMul, Nat.reduceMul, Nat.reduceSub, Nat.reduceLeDiff, f2] <;> rfl)
    have g4 : ((fr.put 92 (.agg (tmC t))).put 4 (.ptr w1.next 0)).get 4 = some (.ptr w1.next 0) := (by simp only [go_sem, eRun_exit, Nat.reduceAdd, Nat.reduceLT, Nat.reduceEqDiff, reduceIte, reduceCtorEq, Int.reduceBEq, Int.reduceBNe, Int.reduceLT, Int.reduceLE, Int.reduceGT, Int.reduceGE, Int.reduceEq, Int.reduceAdd, Int.reduceSub, Int.reduceMul, Nat.reduceMul, Nat.reduceSub, Nat.reduceLeDiff] <;> rfl)
    generalize (fr.put 92 (.agg (tmC t))).put 4 (.ptr w1.next 0) = fr1 at g0 g2 g4
    -- no literal
    have badP : ∀ {s : List SI} {fr : Fr}, rLit ws k e = (Lt.zero, k1, rBad e1 4) → fr.get 0 = some (.ptr bp 0) → fr.get 2 = some (.ptr aw.next 0) → WS tab (.code k_ref8_P_literal_p3 :: s) fr w2 (fun fr' aw' => ∃ vs, resV fr' aw' k_ref8_P_literal.results = some vs ∧ K (resOne vs) aw') := by
      intro s fr hr f0 f2
      refine WS_run 1000 (by simp only [go_sem, eRun_exit, Nat.reduceAdd, Nat.reduceLT, Nat.reduceEqDiff, reduceIte, reduceCtorEq, Int.reduceBEq, Int.reduceBNe, Int.reduceLT, Int.reduceLE, Int.reduceGT, Int.reduceGE, Int.reduceEq, Int.reduceAdd, Int.reduceSub, Int.reduceMul, Nat.reduceMul, Nat.reduceSub, Nat.reduceLeDiff, k_ref8_P_literal_p3, f0, f2]; rfl) ?_
      refine WS_call (by simp only [go_sem, eRun_exit, Nat.reduceAdd, Nat.reduceLT, Nat.reduceEqDiff, reduceIte, reduceCtorEq, Int.reduceBEq, Int.reduceBNe, Int.reduceLT, Int.reduceLE, Int.reduceGT, Int.reduceGE, Int.reduceEq, Int.reduceAdd, Int.reduceSub, Int.reduceMul, Nat.reduceMul, Nat.reduceSub, Nat.reduceLeDiff]) (by simp only [go_sem, eRun_exit, Nat.reduceAdd, Nat.reduceLT, Nat.reduceEqDiff, reduceIte, reduceCtorEq, Int.reduceBEq, Int.reduceBNe, Int.reduceLT, Int.reduceLE, Int.reduceGT, Int.reduceGE, Int.reduceEq, Int.reduceAdd, Int.reduceSub, Int.reduceMul, Nat.reduceMul, Nat.reduceSub, Nat.reduceLeDiff]; rfl) ?_
      refine bad_ok C (x := 4) p2 fun w q1 q2 q3 => ?_
      have hc := res2.frm q2 hne
      have hst := hc.setAll (vs := [V.int .i64 0, V.str [], V.nilslice]) hzl rfl
      have hrl := (put_cb (l := [V.int .i64 0, V.str [], V.nilslice]) hc.lt).all (n := 3) rfl
      refine WS_run 1000 (by simp only [go_sem, eRun_exit, Nat.reduceAdd, Nat.reduceLT, Nat.reduceEqDiff, reduceIte, reduceCtorEq, Int.reduceBEq, Int.reduceBNe, Int.reduceLT, Int.reduceLE, Int.reduceGT, Int.reduceGE, Int.reduceEq, Int.reduceAdd, Int.reduceSub, Int.reduceMul, Nat.reduceMul, Nat.reduceSub, Nat.reduceLeDiff, f0, f2, evParts, fillV, V.cells, hst, List.length_cons, List.length_nil]; rfl) ?_
      refine WS_ret ⟨_, by simp only [go_sem, eRun_exit, Nat.reduceAdd, Nat.reduceLT, Nat.reduceEqDiff, reduceIte, reduceCtorEq, Int.reduceBEq, Int.reduceBNe, Int.reduceLT, Int.reduceLE, Int.reduceGT, Int.reduceGE, Int.reduceEq, Int.reduceAdd, Int.reduceSub, Int.reduceMul, Nat.reduceMul, Nat.reduceSub, Nat.reduceLeDiff, k_ref8_P_literal, f2, hrl]; rfl, ?_⟩
      exact fine w _ _ _ (fun _ => False) _ q1 (f12.tr q2) hr LtC.zero fun _ h => h.elim
    have hbad : (e1 ≠ 0 ∨ rCmpAt ws k1 = 0) → rLit ws k e = (Lt.zero, k1, rBad e1 4) := by
      intro hc
      simp only [rLit]; rw [hs, if_neg (by simp), if_neg hna, hrt, if_pos hc]
    by_cases he1 : e1 = 0
    case neg =>
      refine WS_runB 1000 (by simp only [go_sem, eRun_exit, Nat.reduceAdd, Nat.reduceLT, Nat.reduceEqDiff, reduceIte, reduceCtorEq, Int.reduceBEq, Int.reduceBNe, Int.reduceLT, Int.reduceLE, Int.reduceGT, Int.reduceGE, Int.reduceEq, Int.reduceAdd, Int.reduceSub, Int.reduceMul, Nat.reduceMul, Nat.reduceSub, Nat.reduceLeDiff, k_ref8_P_literal_p7, g0, g2, m2, he1]; rfl) ?_
      exact badP (hbad (.inl he1)) (by simp only [go_sem, eRun_exit, Nat.reduceAdd, Nat.reduceLT, Nat.reduceEqDiff, reduceIte, reduceCtorEq, Int.reduceBEq, Int.reduceBNe, Int.reduceLT, Int.reduceLE, Int.reduceGT, Int.reduceGE, Int.reduceEq, Int.reduceAdd, Int.reduceSub, Int.reduceMul, Nat.reduceMul, Nat.reduceSub, Nat.reduceLeDiff, g0] <;> rfl) (by simp only [go_sem, eRun_exit, Nat.reduceAdd, Nat.reduceLT, Nat.reduceEqDiff, reduceIte, reduceCtorEq, Int.reduceBEq, Int.reduceBNe, Int.reduceLT, Int.reduceLE, Int.reduceGT, Int.reduceGE, Int.reduceEq, Int.reduceAdd, Int.reduceSub, Int.reduceMul, Nat.reduceMul, Nat.reduceSub, Nat.reduceLeDiff, g2] <;> rfl)
    subst he1
    by_cases hkk : ws.length ≤ k1
    · have hz : rCmpAt ws k1 = 0 := by unfold rCmpAt; rw [List.getElem?_eq_none hkk]
      refine WS_runB 1000 (by simp only [go_sem, eRun_exit, Nat.reduceAdd, Nat.reduceLT, Nat.reduceEqDiff, reduceIte, reduceCtorEq, Int.reduceBEq, Int.reduceBNe, Int.reduceLT, Int.reduceLE, Int.reduceGT, Int.reduceGE, Int.reduceEq, Int.reduceAdd, Int.reduceSub, Int.reduceMul, Nat.reduceMul, Nat.reduceSub, Nat.reduceLeDiff, k_ref8_P_literal_p7, g0, g2, m0, m1, m2, hlv2, hkk]; rfl) ?_
      exact badP (hbad (.inr hz)) (by simp only [go_sem, eRun_exit, Nat.reduceAdd, Nat.reduceLT, Nat.reduceEqDiff, reduceIte, reduceCtorEq, Int.reduceBEq, Int.reduceBNe, Int.reduceLT, Int.reduceLE, Int.reduceGT, Int.reduceGE, Int.reduceEq, Int.reduceAdd, Int.reduceSub, Int.reduceMul, Nat.reduceMul, Nat.reduceSub, Nat.reduceLeDiff, g0] <;> rfl) (by simp only [go_sem, eRun_exit, Nat.reduceAdd, Nat.reduceLT, Nat.reduceEqDiff, reduceIte, reduceCtorEq, Int.reduceBEq, Int.reduceBNe, Int.reduceLT, Int.reduceLE, Int.reduceGT, Int.reduceGE, Int.reduceEq, Int.reduceAdd, Int.reduceSub, Int.reduceMul, Nat.reduceMul, Nat.reduceSub, Nat.reduceLeDiff, g2] <;> rfl)
    have hkl : k1 < ws.length := by omega
    obtain ⟨x, hx⟩ : ∃ x, ws[k1]? = some x := ⟨_, List.getElem?_eq_getElem hkl⟩
    rcases hw2.at with ⟨rfl, rfl⟩ | ⟨b, o, c, rfl, hneb, hltb, hat⟩
    · simp at hkl
    obtain ⟨a1, a2, a3⟩ := hat k1 x hx
    by_cases h4 : x.kind = 4
    case neg =>
      have hz : rCmpAt ws k1 = 0 := by unfold rCmpAt; rw [hx]; exact if_neg h4
      refine WS_runB 1000 (by simp only [go_sem, eRun_exit, Nat.reduceAdd, Nat.reduceLT, Nat.reduceEqDiff, reduceIte, reduceCtorEq, Int.reduceBEq, Int.reduceBNe, Int.reduceLT, Int.reduceLE, Int.reduceGT, Int.reduceGE, Int.reduceEq, Int.reduceAdd, Int.reduceSub, Int.reduceMul, Nat.reduceMul, Nat.reduceSub, Nat.reduceLeDiff, k_ref8_P_literal_p7, g0, g2, m0, m1, m2, hkk, hkl, a1, h4]; rfl) ?_
      exact badP (hbad (.inr hz)) (by simp only [go_sem, eRun_exit, Nat.reduceAdd, Nat.reduceLT, Nat.reduceEqDiff, reduceIte, reduceCtorEq, Int.reduceBEq, Int.reduceBNe, Int.reduceLT, Int.reduceLE, Int.reduceGT, Int.reduceGE, Int.reduceEq, Int.reduceAdd, Int.reduceSub, Int.reduceMul, Nat.reduceMul, Nat.reduceSub, Nat.reduceLeDiff, g0] <;> rfl) (by simp only [go_sem, eRun_exit, Nat.reduceAdd, Nat.reduceLT, Nat.reduceEqDiff, reduceIte, reduceCtorEq, Int.reduceBEq, Int.reduceBNe, Int.reduceLT, Int.reduceLE, Int.reduceGT, Int.reduceGE, Int.reduceEq, Int.reduceAdd, Int.reduceSub, Int.reduceMul, Nat.reduceMul, Nat.reduceSub, Nat.reduceLeDiff, g2] <;> rfl)
    have hz : rCmpAt ws k1 = rCompare x.text := by unfold rCmpAt; rw [hx]; exact if_pos h4
    refine WS_run 1000 (by simp only [go_sem, eRun_exit, Nat.reduceAdd, Nat.reduceLT, Nat.reduceEqDiff, reduceIte, reduceCtorEq, Int.reduceBEq, Int.reduceBNe, Int.reduceLT, Int.reduceLE, Int.reduceGT, Int.reduceGE, Int.reduceEq, Int.reduceAdd, Int.reduceSub, Int.reduceMul, Nat.reduceMul, Nat.reduceSub, Nat.reduceLeDiff, k_ref8_P_literal_p7, g0, g2, m0, m1, m2, hkk, hkl, a1, a2, h4]; rfl) ?_
    refine WS_call (by simp only [go_sem, eRun_exit, Nat.reduceAdd, Nat.reduceLT, Nat.reduceEqDiff, reduceIte, reduceCtorEq, Int.reduceBEq, Int.reduceBNe, Int.reduceLT, Int.reduceLE, Int.reduceGT, Int.reduceGE, Int.reduceEq, Int.reduceAdd, Int.reduceSub, Int.reduceMul, Nat.reduceMul, Nat.reduceSub, Nat.reduceLeDiff]) (by simp only [go_sem, eRun_exit, Nat.reduceAdd, Nat.reduceLT, Nat.reduceEqDiff, reduceIte, reduceCtorEq, Int.reduceBEq, Int.reduceBNe, Int.reduceLT, Int.reduceLE, Int.reduceGT, Int.reduceGE, Int.reduceEq, Int.reduceAdd, Int.reduceSub, Int.reduceMul, Nat.reduceMul, Nat.reduceSub, Nat.reduceLeDiff]; rfl) ?_
    refine pcompare_ok C ?_
    by_cases hcz : rCompare x.text = 0
    · rw [hcz]
      refine WS_runB 1000 (by simp only [go_sem, eRun_exit, Nat.reduceAdd, Nat.reduceLT, Nat.reduceEqDiff, reduceIte, reduceCtorEq, Int.reduceBEq, Int.reduceBNe, Int.reduceLT, Int.reduceLE, Int.reduceGT, Int.reduceGE, Int.reduceEq, Int.reduceAdd, Int.reduceSub, Int.reduceMul, Nat.reduceMul, Nat.reduceSub, Nat.reduceLeDiff]; rfl) ?_
      exact badP (hbad (.inr (hz.trans hcz))) (by simp only [go_sem, eRun_exit, Nat.reduceAdd, Nat.reduceLT, Nat.reduceEqDiff, reduceIte, reduceCtorEq, Int.reduceBEq, Int.reduceBNe, Int.reduceLT, Int.reduceLE, Int.reduceGT, Int.reduceGE, Int.reduceEq, Int.reduceAdd, Int.reduceSub, Int.reduceMul, Nat.reduceMul, Nat.reduceSub, Nat.reduceLeDiff, g0] <;> rfl) (by simp only [go_sem, eRun_exit, Nat.reduceAdd, Nat.reduceLT, Nat.reduceEqDiff, reduceIte, reduceCtorEq, Int.reduceBEq, Int.reduceBNe, Int.reduceLT, Int.reduceLE, Int.reduceGT, Int.reduceGE, Int.reduceEq, Int.reduceAdd, Int.reduceSub, Int.reduceMul, Nat.reduceMul, Nat.reduceSub, Nat.reduceLeDiff, g2] <;> rfl)
    refine WS_run 1000 (by simp only [go_sem, eRun_exit, Nat.reduceAdd, Nat.reduceLT, Nat.reduceEqDiff, reduceIte, reduceCtorEq, Int.reduceBEq, Int.reduceBNe, Int.reduceLT, Int.reduceLE, Int.reduceGT, Int.reduceGE, Int.reduceEq, Int.reduceAdd, Int.reduceSub, Int.reduceMul, Nat.reduceMul, Nat.reduceSub, Nat.reduceLeDiff, k_ref8_P_literal_p6, g0, g2, m0, m1, hkl, a2, hcz]; rfl) ?_
    refine WS_call (by simp only [go_sem, eRun_exit, Nat.reduceAdd, Nat.reduceLT, Nat.reduceEqDiff, reduceIte, reduceCtorEq, Int.reduceBEq, Int.reduceBNe, Int.reduceLT, Int.reduceLE, Int.reduceGT, Int.reduceGE, Int.reduceEq, Int.reduceAdd, Int.reduceSub, Int.reduceMul, Nat.reduceMul, Nat.reduceSub, Nat.reduceLeDiff]) (by simp only [go_sem, eRun_exit, Nat.reduceAdd, Nat.reduceLT, Nat.reduceEqDiff, reduceIte, reduceCtorEq, Int.reduceBEq, Int.reduceBNe, Int.reduceLT, Int.reduceLE, Int.reduceGT, Int.reduceGE, Int.reduceEq, Int.reduceAdd, Int.reduceSub, Int.reduceMul, Nat.reduceMul, Nat.reduceSub, Nat.reduceLeDiff]; rfl) ?_
    refine pcompare_ok C ?_
    have hwr : IntKind.wrap .i64 (Int.ofNat k1 + 1) = Int.ofNat (k1 + 1) := wrap_succ (by omega)
    have s3 := p2.cb.set (i := 1) (v := .int .i64 (Int.ofNat (k1 + 1))) (by simp) rfl
    have hp3 : PSt (w2.put bp ([V.slice b o ws.length c, .int .i64 (Int.ofNat k1), .int .i64 (Int.ofNat 0)].set 1 (.int .i64 (Int.ofNat (k1 + 1))))) bp (.slice b o ws.length c) (k1 + 1) 0 := ⟨p2.lt, AE.T.get_put_same⟩
    have r3 : Frm (fun b => b = bp) w2 (w2.put bp ([V.slice b o ws.length c, .int .i64 (Int.ofNat k1), .int .i64 (Int.ofNat 0)].set 1 (.int .i64 (Int.ofNat (k1 + 1))))) := put_frm
    generalize w2.put bp ([V.slice b o ws.length c, .int .i64 (Int.ofNat k1), .int .i64 (Int.ofNat 0)].set 1 (.int .i64 (Int.ofNat (k1 + 1)))) = w3 at s3 hp3 r3
    have hw3 := hw2.frm r3 fun y hy he => hw2.no (he ▸ hy)
    refine WS_run 1000 (by simp only [go_sem, eRun_exit, Nat.reduceAdd, Nat.reduceLT, Nat.reduceEqDiff, reduceIte, reduceCtorEq, Int.reduceBEq, Int.reduceBNe, Int.reduceLT, Int.reduceLE, Int.reduceGT, Int.reduceGE, Int.reduceEq, Int.reduceAdd, Int.reduceSub, Int.reduceMul, Nat.reduceMul, Nat.reduceSub, Nat.reduceLeDiff, k_ref8_P_literal_p5, g0, g2, g4, m1, hwr, s3, List.length_cons, List.length_nil]; rfl) ?_
    refine WS_call (by simp only [go_sem, eRun_exit, Nat.reduceAdd, Nat.reduceLT, Nat.reduceEqDiff, reduceIte, reduceCtorEq, Int.reduceBEq, Int.reduceBNe, Int.reduceLT, Int.reduceLE, Int.reduceGT, Int.reduceGE, Int.reduceEq, Int.reduceAdd, Int.reduceSub, Int.reduceMul, Nat.reduceMul, Nat.reduceSub, Nat.reduceLeDiff]) (by simp only [go_sem, eRun_exit, Nat.reduceAdd, Nat.reduceLT, Nat.reduceEqDiff, reduceIte, reduceCtorEq, Int.reduceBEq, Int.reduceBNe, Int.reduceLT, Int.reduceLE, Int.reduceGT, Int.reduceGE, Int.reduceEq, Int.reduceAdd, Int.reduceSub, Int.reduceMul, Nat.reduceMul, Nat.reduceSub, Nat.reduceLeDiff]; rfl) ?_
    refine pterm_ok C hp3 hw3 hok (fun x hx => Nat.lt_of_lt_of_le (hT1 x hx) (f12.tr r3).next) fun w5 u1 u2 => ?_
    obtain ⟨w6, s6, c6, r6, n6⟩ := boxed w5 (zs := [V.int .i64 0, V.str [], V.int .i64 0]) (vs := tmC (rTerm ws (k1 + 1) 0).1) rfl rfl
    have hb1 : ¬ w1.next = bp := by have := hp1.lt; omega
    have la := ((((c2.frm r3 hb1).frm u2 hb1).frm r6 fun h => h)).all (n := 3) rfl
    have lb := c6.all (n := 3) rfl
    have hov1 : over [V.int .i64 0, V.str [], V.int .i64 0, V.int .i64 0, V.str [], V.int .i64 0] 0 (tmC t) = some (tmC t ++ [V.int .i64 0, V.str [], V.int .i64 0]) := rfl
    have hov2 : over (tmC t ++ [V.int .i64 0, V.str [], V.int .i64 0]) 3 (tmC (rTerm ws (k1 + 1) 0).1) = some (tmsC [t, (rTerm ws (k1 + 1) 0).1]) := rfl
    have p7 := (u1.frm r6 fun h => h).frm (fresh_frm (S := fun _ => False) w6 (tmsC [t, (rTerm ws (k1 + 1) 0).1])) fun h => h
    have c7 := fresh_cb w6 (tmsC [t, (rTerm ws (k1 + 1) 0).1])
    have f17 : Frm (fun b => b = bp) (aw.fresh zs) (w6.fresh (tmsC [t, (rTerm ws (k1 + 1) 0).1])) := (((f12.tr r3).tr u2).tr r6.no).tr (fresh_frm _ _)
    have cr := hc0.frm f17 hne
    have hst := cr.setAll (vs := [V.int .i64 (Int.ofNat (rCompare x.text)), .str [], .slice w6.next 0 2 (.known 2)]) hzl rfl
    have hrl := (put_cb (l := [V.int .i64 (Int.ofNat (rCompare x.text)), .str [], .slice w6.next 0 2 (.known 2)]) cr.lt).all (n := 3) rfl
    have hr : rLit ws k e = (⟨rCompare x.text, [], [t, (rTerm ws (k1 + 1) 0).1]⟩, (rTerm ws (k1 + 1) 0).2.1, (rTerm ws (k1 + 1) 0).2.2) := by
      have hng : ¬ ((0 : Nat) ≠ 0 ∨ rCmpAt ws k1 = 0) := by
        rintro (h | h)
        · exact h rfl
        · exact hcz (hz.symm.trans h)
      simp only [rLit]; rw [hs, if_neg (by simp), if_neg hna, hrt]
      simp only []
      rw [if_neg hng, hz]
    refine WS_run 1000 (by simp only [go_sem, eRun_exit, Nat.reduceAdd, Nat.reduceLT, Nat.reduceEqDiff, reduceIte, reduceCtorEq, Int.reduceBEq, Int.reduceBNe, Int.reduceLT, Int.reduceLE, Int.reduceGT, Int.reduceGE, Int.reduceEq, Int.reduceAdd, Int.reduceSub, Int.reduceMul, Nat.reduceMul, Nat.reduceSub, Nat.reduceLeDiff, k_ref8_P_literal_p4, g0, g2, g4, s6, tmC_len, la, lb, evParts, fillV, hov1, hov2, over, hst, List.length_cons, List.length_nil]; rfl) ?_
    refine WS_ret ⟨_, by simp only [go_sem, eRun_exit, Nat.reduceAdd, Nat.reduceLT, Nat.reduceEqDiff, reduceIte, reduceCtorEq, Int.reduceBEq, Int.reduceBNe, Int.reduceLT, Int.reduceLE, Int.reduceGT, Int.reduceGE, Int.reduceEq, Int.reduceAdd, Int.reduceSub, Int.reduceMul, Nat.reduceMul, Nat.reduceSub, Nat.reduceLeDiff, k_ref8_P_literal, g2, hrl]; rfl, ?_⟩
    have n17 := (((f12.tr r3).tr u2).tr (r6.no (S := fun b => b = bp))).next
    exact fine _ _ _ _ (fun y => y = w6.next) _ p7 f17 hr ⟨_, rfl, tms_of (T := fun y => y = w6.next) rfl c7⟩ fun y hy => by
      subst hy
      exact ⟨by omega, Nat.lt_succ_self _⟩
  -- which of both
  by_cases hkl : k < ws.length
  case neg =>
    have hna : ¬ (rKind ws k = 1 ∧ rCmpAt ws (k + 1) = 0) := by
      unfold rKind; rw [List.getElem?_eq_none (by omega)]; simp
    refine WS_run 1000 (by simp only [go_sem, eRun_exit, Nat.reduceAdd, Nat.reduceLT, Nat.reduceEqDiff, reduceIte, reduceCtorEq, Int.reduceBEq, Int.reduceBNe, Int.reduceLT, Int.reduceLE, Int.reduceGT, Int.reduceGE, Int.reduceEq, Int.reduceAdd, Int.reduceSub, Int.reduceMul, Nat.reduceMul, Nat.reduceSub, Nat.reduceLeDiff, k_ref8_P_literal_p8, l0, l1, hlv, hkl]; rfl) ?_
    exact termP hna (by simp only [go_sem, eRun_exit, Nat.reduceAdd, Nat.reduceLT, Nat.reduceEqDiff, reduceIte, reduceCtorEq, Int.reduceBEq, Int.reduceBNe, Int.reduceLT, Int.reduceLE, Int.reduceGT, Int.reduceGE, Int.reduceEq, Int.reduceAdd, Int.reduceSub, Int.reduceMul, Nat.reduceMul, Nat.reduceSub, Nat.reduceLeDiff] <;> rfl) (by simp only [go_sem, eRun_exit, Nat.reduceAdd, Nat.reduceLT, Nat.reduceEqDiff, reduceIte, reduceCtorEq, Int.reduceBEq, Int.reduceBNe, Int.reduceLT, Int.reduceLE, Int.reduceGT, Int.reduceGE, Int.reduceEq, Int.reduceAdd, Int.reduceSub, Int.reduceMul, Nat.reduceMul, Nat.reduceSub, Nat.reduceLeDiff] <;> rfl) (by simp only [go_sem, eRun_exit, Nat.reduceAdd, Nat.reduceLT, Nat.reduceEqDiff, reduceIte, reduceCtorEq, Int.reduceBEq, Int.reduceBNe, Int.reduceLT, Int.reduceLE, Int.reduceGT, Int.reduceGE, Int.reduceEq, Int.reduceAdd, Int.reduceSub, Int.reduceMul, Nat.reduceMul, Nat.reduceSub, Nat.reduceLeDiff] <;> rfl)
  obtain ⟨x, hx⟩ : ∃ x, ws[k]? = some x := ⟨_, List.getElem?_eq_getElem hkl⟩
  have hkx : rKind ws k = x.kind := by unfold rKind; rw [hx]
  rcases hw1.at with ⟨rfl, rfl⟩ | ⟨b, o, c, rfl, hneb, hltb, hat⟩
  · simp at hkl
  obtain ⟨a1, a2, a3⟩ := hat k x hx
  by_cases h1k : x.kind = 1
  case neg =>
    have hna : ¬ (rKind ws k = 1 ∧ rCmpAt ws (k + 1) = 0) := fun h => h1k (hkx.symm.trans h.1)
    refine WS_run 1000 (by simp only [go_sem, eRun_exit, Nat.reduceAdd, Nat.reduceLT, Nat.reduceEqDiff, reduceIte, reduceCtorEq, Int.reduceBEq, Int.reduceBNe, Int.reduceLT, Int.reduceLE, Int.reduceGT, Int.reduceGE, Int.reduceEq, Int.reduceAdd, Int.reduceSub, Int.reduceMul, Nat.reduceMul, Nat.reduceSub, Nat.reduceLeDiff, k_ref8_P_literal_p8, l0, l1, hkl, a1, h1k]; rfl) ?_
    exact termP hna (by simp only [go_sem, eRun_exit, Nat.reduceAdd, Nat.reduceLT, Nat.reduceEqDiff, reduceIte, reduceCtorEq, Int.reduceBEq, Int.reduceBNe, Int.reduceLT, Int.reduceLE, Int.reduceGT, Int.reduceGE, Int.reduceEq, Int.reduceAdd, Int.reduceSub, Int.reduceMul, Nat.reduceMul, Nat.reduceSub, Nat.reduceLeDiff] <;> rfl) (by simp only [go_sem, eRun_exit, Nat.reduceAdd, Nat.reduceLT, Nat.reduceEqDiff, reduceIte, reduceCtorEq, Int.reduceBEq, Int.reduceBNe, Int.reduceLT, Int.reduceLE, Int.reduceGT, Int.reduceGE, Int.reduceEq, Int.reduceAdd, Int.reduceSub, Int.reduceMul, Nat.reduceMul, Nat.reduceSub, Nat.reduceLeDiff] <;> rfl) (by simp only [go_sem, eRun_exit, Nat.reduceAdd, Nat.reduceLT, Nat.reduceEqDiff, reduceIte, reduceCtorEq, Int.reduceBEq, Int.reduceBNe, Int.reduceLT, Int.reduceLE, Int.reduceGT, Int.reduceGE, Int.reduceEq, Int.reduceAdd, Int.reduceSub, Int.reduceMul, Nat.reduceMul, Nat.reduceSub, Nat.reduceLeDiff] <;> rfl)
  have hwr : IntKind.wrap .i64 (Int.ofNat k + 1) = Int.ofNat (k + 1) := wrap_succ (by omega)
  have hr0 : rCmpAt ws (k + 1) = 0 → rLit ws k e = rAtom ws k e := by
    intro hz
    simp only [rLit]; rw [hs, if_neg (by simp), if_pos ⟨hkx.trans h1k, hz⟩]
  by_cases hkl2 : k + 1 < ws.length
  case neg =>
    have hz : rCmpAt ws (k + 1) = 0 := by unfold rCmpAt; rw [List.getElem?_eq_none (by omega)]
    refine WS_runB 1000 (by simp only [go_sem, eRun_exit, Nat.reduceAdd, Nat.reduceLT, Nat.reduceEqDiff, reduceIte, reduceCtorEq, Int.reduceBEq, Int.reduceBNe, Int.reduceLT, Int.reduceLE, Int.reduceGT, Int.reduceGE, Int.reduceEq, Int.reduceAdd, Int.reduceSub, Int.reduceMul, Nat.reduceMul, Nat.reduceSub, Nat.reduceLeDiff, k_ref8_P_literal_p8, l0, l1, hkl, a1, h1k, hwr, hkl2]; rfl) ?_
    exact atomP (hr0 hz) (by simp only [go_sem, eRun_exit, Nat.reduceAdd, Nat.reduceLT, Nat.reduceEqDiff, reduceIte, reduceCtorEq, Int.reduceBEq, Int.reduceBNe, Int.reduceLT, Int.reduceLE, Int.reduceGT, Int.reduceGE, Int.reduceEq, Int.reduceAdd, Int.reduceSub, Int.reduceMul, Nat.reduceMul, Nat.reduceSub, Nat.reduceLeDiff] <;> rfl) (by simp only [go_sem, eRun_exit, Nat.reduceAdd, Nat.reduceLT, Nat.reduceEqDiff, reduceIte, reduceCtorEq, Int.reduceBEq, Int.reduceBNe, Int.reduceLT, Int.reduceLE, Int.reduceGT, Int.reduceGE, Int.reduceEq, Int.reduceAdd, Int.reduceSub, Int.reduceMul, Nat.reduceMul, Nat.reduceSub, Nat.reduceLeDiff] <;> rfl)
  obtain ⟨y, hy⟩ : ∃ x, ws[k + 1]? = some x := ⟨_, List.getElem?_eq_getElem hkl2⟩
  obtain ⟨b1, b2, b3⟩ := hat (k + 1) y hy
  by_cases h4 : y.kind = 4
  case neg =>
    have hz : rCmpAt ws (k + 1) = 0 := by unfold rCmpAt; rw [hy]; exact if_neg h4
    refine WS_runB 1000 (by simp only [go_sem, eRun_exit, Nat.reduceAdd, Nat.reduceLT, Nat.reduceEqDiff, reduceIte, reduceCtorEq, Int.reduceBEq, Int.reduceBNe, Int.reduceLT, Int.reduceLE, Int.reduceGT, Int.reduceGE, Int.reduceEq, Int.reduceAdd, Int.reduceSub, Int.reduceMul, Nat.reduceMul, Nat.reduceSub, Nat.reduceLeDiff, k_ref8_P_literal_p8, l0, l1, hkl, a1, h1k, hwr, hkl2, b1, h4]; rfl) ?_
    exact atomP (hr0 hz) (by simp only [go_sem, eRun_exit, Nat.reduceAdd, Nat.reduceLT, Nat.reduceEqDiff, reduceIte, reduceCtorEq, Int.reduceBEq, Int.reduceBNe, Int.reduceLT, Int.reduceLE, Int.reduceGT, Int.reduceGE, Int.reduceEq, Int.reduceAdd, Int.reduceSub, Int.reduceMul, Nat.reduceMul, Nat.reduceSub, Nat.reduceLeDiff] <;> rfl) (by simp only [go_sem, eRun_exit, Nat.reduceAdd, Nat.reduceLT, Nat.reduceEqDiff, reduceIte, reduceCtorEq, Int.reduceBEq, Int.reduceBNe, Int.reduceLT, Int.reduceLE, Int.reduceGT, Int.reduceGE, Int.reduceEq, Int.reduceAdd, Int.reduceSub, Int.reduceMul, Nat.reduceMul, Nat.reduceSub, Nat.reduceLeDiff] <;> rfl)
  have hz : rCmpAt ws (k + 1) = rCompare y.text := by unfold rCmpAt; rw [hy]; exact if_pos h4
  refine WS_run 1000 (by simp only [go_sem, eRun_exit, Nat.reduceAdd, Nat.reduceLT, Nat.reduceEqDiff, reduceIte, reduceCtorEq, Int.reduceBEq, Int.reduceBNe, Int.reduceLT, Int.reduceLE, Int.reduceGT, Int.reduceGE, Int.reduceEq, Int.reduceAdd, Int.reduceSub, Int.reduceMul, Nat.reduceMul, Nat.reduceSub, Nat.reduceLeDiff, k_ref8_P_literal_p8, l0, l1, hkl, a1, h1k, hwr, hkl2, b1, b2, h4]; rfl) ?_
  refine WS_call (by simp only [go_sem, eRun_exit, Nat.reduceAdd, Nat.reduceLT, Nat.reduceEqDiff, reduceIte, reduceCtorEq, Int.reduceBEq, Int.reduceBNe, Int.reduceLT, Int.reduceLE, Int.reduceGT, Int.reduceGE, Int.reduceEq, Int.reduceAdd, Int.reduceSub, Int.reduceMul, Nat.reduceMul, Nat.reduceSub, Nat.reduceLeDiff]) (by simp only [go_sem, eRun_exit, Nat.reduceAdd, Nat.reduceLT, Nat.reduceEqDiff, reduceIte, reduceCtorEq, Int.reduceBEq, Int.reduceBNe, Int.reduceLT, Int.reduceLE, Int.reduceGT, Int.reduceGE, Int.reduceEq, Int.reduceAdd, Int.reduceSub, Int.reduceMul, Nat.reduceMul, Nat.reduceSub, Nat.reduceLeDiff]; rfl) ?_
  refine pcompare_ok C ?_
  by_cases hcz : rCompare y.text = 0
  · rw [hcz]
    refine WS_runB 1000 (by simp only [go_sem, eRun_exit, Nat.reduceAdd, Nat.reduceLT, Nat.reduceEqDiff, reduceIte, reduceCtorEq, Int.reduceBEq, Int.reduceBNe, Int.reduceLT, Int.reduceLE, Int.reduceGT, Int.reduceGE, Int.reduceEq, Int.reduceAdd, Int.reduceSub, Int.reduceMul, Nat.reduceMul, Nat.reduceSub, Nat.reduceLeDiff]; rfl) ?_
    exact atomP (hr0 (hz.trans hcz)) (by simp only [go_sem, eRun_exit, Nat.reduceAdd, Nat.reduceLT, Nat.reduceEqDiff, reduceIte, reduceCtorEq, Int.reduceBEq, Int.reduceBNe, Int.reduceLT, Int.reduceLE, Int.reduceGT, Int.reduceGE, Int.reduceEq, Int.reduceAdd, Int.reduceSub, Int.reduceMul, Nat.reduceMul, Nat.reduceSub, Nat.reduceLeDiff] <;> rfl) (by simp only [go_sem, eRun_exit, Nat.reduceAdd, Nat.reduceLT, Nat.reduceEqDiff, reduceIte, reduceCtorEq, Int.reduceBEq, Int.reduceBNe, Int.reduceLT, Int.reduceLE, Int.reduceGT, Int.reduceGE, Int.reduceEq, Int.reduceAdd, Int.reduceSub, Int.reduceMul, Nat.reduceMul, Nat.reduceSub, Nat.reduceLeDiff] <;> rfl)
  · have hpos : 0 < rCompare y.text := by omega
    refine WS_run 1000 (by simp only [go_sem, eRun_exit, Nat.reduceAdd, Nat.reduceLT, Nat.reduceEqDiff, reduceIte, reduceCtorEq, Int.reduceBEq, Int.reduceBNe, Int.reduceLT, Int.reduceLE, Int.reduceGT, Int.reduceGE, Int.reduceEq, Int.reduceAdd, Int.reduceSub, Int.reduceMul, Nat.reduceMul, Nat.reduceSub, Nat.reduceLeDiff, hpos]; rfl) ?_
    exact termP (fun h => hcz (hz.symm.trans h.2)) (by simp only [go_sem, eRun_exit, Nat.reduceAdd, Nat.reduceLT, Nat.reduceEqDiff, reduceIte, reduceCtorEq, Int.reduceBEq, Int.reduceBNe, Int.reduceLT, Int.reduceLE, Int.reduceGT, Int.reduceGE, Int.reduceEq, Int.reduceAdd, Int.reduceSub, Int.reduceMul, Nat.reduceMul, Nat.reduceSub, Nat.reduceLeDiff] <;> rfl) (by simp only [go_sem, eRun_exit, Nat.reduceAdd, Nat.reduceLT, Nat.reduceEqDiff, reduceIte, reduceCtorEq, Int.reduceBEq, Int.reduceBNe, Int.reduceLT, Int.reduceLE, Int.reduceGT, Int.reduceGE, Int.reduceEq, Int.reduceAdd, Int.reduceSub, Int.reduceMul, Nat.reduceMul, Nat.reduceSub, Nat.reduceLeDiff] <;> rfl) (by simp only [go_sem, eRun_exit, Nat.reduceAdd, Nat.reduceLT, Nat.reduceEqDiff, reduceIte, reduceCtorEq, Int.reduceBEq, Int.reduceBNe, Int.reduceLT, Int.reduceLE, Int.reduceGT, Int.reduceGE, Int.reduceEq, Int.reduceAdd, Int.reduceSub, Int.reduceMul, Nat.reduceMul, Nat.reduceSub, Nat.reduceLeDiff] <;> rfl)
end Go.Proofs.Ytjidefnbancmfaa

/- The reference's parser: bodies. -/
set_option linter.unusedVariables false
set_option maxRecDepth 10000
set_option linter.unusedSimpArgs false
namespace Go.Proofs.Ytjidefnbancmfaa
open Go.AE Delphi
variable {tab : Tab}
theorem buf_one {S : Nat → Prop} {w : AW} {v : V} {esz n : Nat} {cs : List V} (h : Buf S w v esz n cs) : v.one = true ∧ v.cells = [v] := by
  rcases h.inv with ⟨rfl, _⟩ | ⟨_, rfl, _⟩ <;> exact ⟨rfl, rfl⟩
/-- a body that is being read. -/
structure BS (a w : AW) (bp n8 : Nat) (wv : V) (hd : Lt) (hv : V) (body : List Lt) (k e : Nat) (bv : V) (S T : Nat → Prop) (xss : List (List V)) : Prop where
  p : PSt w bp wv k e
  frm : Frm (fun b => b = bp) a w
  rule : CB w n8 [.int .i64 (Int.ofNat hd.kind), .str hd.name, hv, bv]
  head : Rd T w hv 3 hd.args.length (tmsC hd.args)
  buf : Buf S w bv 3 body.length xss.flatten
  lits : All2 (LtC T w) body xss
  sepS : ∀ x, S x → a.next ≤ x ∧ x < w.next ∧ x ≠ n8 ∧ ¬ T x
  sepT : ∀ x, T x → a.next ≤ x ∧ x < w.next ∧ x ≠ n8
structure BF (f : Fr) (bp n8 : Nat) (v5 v7 : V) : Prop where
  f5 : f.get 5 = some v5
  f6 : f.get 6 = some (.ptr bp 0)
  f7 : f.get 7 = some v7
  f8 : f.get 8 = some (.ptr n8 0)
def BodI (a : AW) (bp n8 : Nat) (wv : V) (hd : Lt) (hv : V) (ws : List Wd) (v5 v7 : V) (fin : List Lt × Nat × Nat) (q : Nat) (f : Fr) (w : AW) : Prop :=
  ∃ body k e bv S T xss, BF f bp n8 v5 v7 ∧ BS a w bp n8 wv hd hv body k e bv S T xss ∧ body.length ≤ 7 ∧ k ≤ ws.length ∧ ws.length + 1 ≤ q + k ∧ rBody ws q body k e = fin ∧ (e = 0 → body.length ≤ 6)
def BodJ (a : AW) (bp n8 : Nat) (wv : V) (hd : Lt) (hv : V) (v5 v7 : V) (fin : List Lt × Nat × Nat) (f : Fr) (w : AW) : Prop :=
  ∃ bv S T xss, BF f bp n8 v5 v7 ∧ BS a w bp n8 wv hd hv fin.1 fin.2.1 fin.2.2 bv S T xss
theorem rBody_stop {ws : List Wd} {q : Nat} {l : List Lt} {k e : Nat} (h : e ≠ 0) : rBody ws q l k e = (l, k, e) := by
  cases q with
  | zero => rfl
  | succ q => simp only [rBody, if_neg h]
/-- one more literal. -/
theorem body_step (C : Codes tab) {Tw : Nat → Prop} {a w : AW} {bp n8 : Nat} {wv : V} {hd : Lt} {hv : V} {ws : List Wd} {v5 v7 : V} {fin : List Lt × Nat × Nat} {q : Nat} {f : Fr} {s : List SI} {Q : Fr → AW → Prop} (hw : Wds Tw a bp wv ws) (hok : ∀ x ∈ ws, WOk x) (hT : ∀ x, Tw x → x < a.next) (hlt : bp < a.next) (hn8 : a.next ≤ n8)
    (hI : BodI a bp n8 wv hd hv ws v5 v7 fin q f w) (ih : ∀ n' f' w', n' < q → BodI a bp n8 wv hd hv ws v5 v7 fin n' f' w' → WS tab (.code (.loop k_ref8_Program_p5) :: .endB 2 :: s) f' w' Q)
    (out : ∀ s' f' w', BodJ a bp n8 wv hd hv v5 v7 fin f' w' → popTo 2 s' = some s → WS tab (.code (.exit 2) :: s') f' w' Q) : WS tab (.code k_ref8_Program_p5 :: .code (.loop k_ref8_Program_p5) :: .endB 2 :: s) f w Q := by
  obtain ⟨body, k, e, bv, S, T, xss, ⟨f5, f6, f7, f8⟩, hA, hl7, hk, hq, hfin, hl6⟩ := hI
  have p2 := hA.p.l2
  by_cases he : e = 0
  case neg =>
    rw [rBody_stop he] at hfin
    refine WS_runB 1000 (by simp only [go_sem, Nat.reduceAdd, Nat.reduceLT, Nat.reduceEqDiff, reduceIte, reduceCtorEq, Int.reduceBEq, Int.reduceBNe, Int.reduceLT, Int.reduceLE, Int.reduceGT, Int.reduceGE, Int.reduceEq, Int.reduceAdd, Int.reduceSub, Int.reduceMul, Nat.reduceMul, Nat.reduceSub, Nat.reduceLeDiff, k_ref8_Program_p5, f6, p2, he]; rfl) ?_
    exact out _ _ _ ⟨bv, S, T, xss, ⟨(by simp only [go_sem, eRun_exit, Nat.reduceAdd, Nat.reduceLT, Nat.reduceEqDiff, reduceIte, reduceCtorEq, Int.reduceBEq, Int.reduceBNe, Int.reduceLT, Int.reduceLE, Int.reduceGT, Int.reduceGE, Int.reduceEq, Int.reduceAdd, Int.reduceSub, Int.reduceMul, Nat.reduceMul, Nat.reduceSub, Nat.reduceLeDiff, f5] <;> rfl), (by simp only [go_sem, eRun_exit, Nat.reduceAdd, Nat.reduceLT, Nat.reduceEqDiff, reduceIte, reduceCtorEq, Int.reduceBEq, Int.reduceBNe, Int.reduceLT, Int.reduceLE, Int.reduceGT, Int.reduceGE, Int.reduceEq, Int.reduceAdd, Int.reduceSub, Int.reduceMul, Nat.reduceMul, Nat.reduceSub, Nat.reduceLeDiff, f6] <;> rfl), (by simp only [go_sem, eRun_exit, Nat.reduceAdd, Nat.reduceLT, Nat.reduceEqDiff, reduceIte, reduceCtorEq, Int.reduceBEq, Int.reduceBNe, Int.reduceLT, Int.reduceLE, Int.reduceGT, Int.reduceGE, Int.reduceEq, Int.reduceAdd, Int.reduceSub, Int.reduceMul, Nat.reduceMul, Nat.reduceSub, Nat.reduceLeDiff, f7] <;> rfl), (by simp only [go_sem, eRun_exit, Nat.reduceAdd, Nat.reduceLT, Nat.reduceEqDiff, reduceIte, reduceCtorEq, Int.reduceBEq, Int.reduceBNe, Int.reduceLT, Int.reduceLE, Int.reduceGT, Int.reduceGE, Int.reduceEq, Int.reduceAdd, Int.reduceSub, Int.reduceMul, Nat.reduceMul, Nat.reduceSub, Nat.reduceLeDiff, f8] <;> rfl)⟩, by rw [← hfin]; exact hA⟩ rfl
  subst he
  have hl6 := hl6 rfl
  obtain ⟨q, rfl⟩ : ∃ q', q = q' + 1 := ⟨q - 1, by omega⟩
  refine WS_run 1000 (by simp only [go_sem, eRun_exit, Nat.reduceAdd, Nat.reduceLT, Nat.reduceEqDiff, reduceIte, reduceCtorEq, Int.reduceBEq, Int.reduceBNe, Int.reduceLT, Int.reduceLE, Int.reduceGT, Int.reduceGE, Int.reduceEq, Int.reduceAdd, Int.reduceSub, Int.reduceMul, Nat.reduceMul, Nat.reduceSub, Nat.reduceLeDiff, k_ref8_Program_p5, f6, p2]; rfl) ?_
  refine WS_call (by simp only [go_sem, eRun_exit, Nat.reduceAdd, Nat.reduceLT, Nat.reduceEqDiff, reduceIte, reduceCtorEq, Int.reduceBEq, Int.reduceBNe, Int.reduceLT, Int.reduceLE, Int.reduceGT, Int.reduceGE, Int.reduceEq, Int.reduceAdd, Int.reduceSub, Int.reduceMul, Nat.reduceMul, Nat.reduceSub, Nat.reduceLeDiff]) (by simp only [go_sem, eRun_exit, Nat.reduceAdd, Nat.reduceLT, Nat.reduceEqDiff, reduceIte, reduceCtorEq, Int.reduceBEq, Int.reduceBNe, Int.reduceLT, Int.reduceLE, Int.reduceGT, Int.reduceGE, Int.reduceEq, Int.reduceAdd, Int.reduceSub, Int.reduceMul, Nat.reduceMul, Nat.reduceSub, Nat.reduceLeDiff]; rfl) ?_
  have hww : Wds Tw w bp wv ws := hw.frm hA.frm fun x hx he => hw.no (he ▸ hx)
  refine plit_ok C hA.p hww hok (fun x hx => Nat.lt_of_lt_of_le (hT x hx) hA.frm.next) hk fun w1 Tn xs q1 q2 q3 q4 => ?_
  simp only [rBody, if_true] at hfin
  have hk1 := rLit_le (e := 0) hk
  have hk1g := rLit_ge ws k 0
  generalize hrt : rLit ws k 0 = rt at hfin q1 hk1 hk1g q3
  obtain ⟨t, k1, e1⟩ := rt
  simp only at hfin q1 hk1 hk1g q3
  obtain ⟨xl, xo⟩ := q3.one
  obtain ⟨w2, s2, c2, r2, n2⟩ := boxed w1 (zs := [V.int .i64 0, V.str [], V.nilslice]) (vs := xs) (by rw [xl]; rfl) xo
  have nx := hA.frm.next
  have nx1 := q2.next
  have hnb : ¬ n8 = bp := by omega
  have p2' := q1.frm r2 fun h => h
  have nS : ∀ x, S x → ¬ x = bp := fun x hx he => by have := (hA.sepS x hx).1; omega
  have nT : ∀ x, T x → ¬ x = bp := fun x hx he => by have := (hA.sepT x hx).1; omega
  have nTn : ∀ x, Tn x → ¬ x = bp := fun x hx he => by have := (q4 x hx).1; omega
  have rule2 := (hA.rule.frm q2 hnb).frm r2 fun h => h
  have buf2 := (hA.buf.frm q2 nS).frm r2 fun _ _ h => h
  have l2 := p2'.l2
  have la : w2.load n8 3 1 = some [bv] := by rw [rule2.load]; rfl
  have lt : w2.load w1.next 0 3 = some xs := c2.all xl
  have hlv := buf2.lenV
  have f02 : Frm (fun b => b = bp) a w2 := hA.frm.tr (q2.tr r2.no)
  have f12 : Frm (fun b => b = bp) w w2 := q2.tr r2.no
  have lits2 : All2 (LtC (fun x => T x ∨ Tn x) w2) (body ++ [t]) (xss ++ [xs]) := by
    refine All2.snoc ((q3.frm r2 fun _ _ h => h).mono fun _ h => .inr h) ?_
    exact hA.lits.imp fun l ys hl => (hl.frm f12 nT).mono fun _ h => .inl h
  have head2 : Rd (fun x => T x ∨ Tn x) w2 hv 3 hd.args.length (tmsC hd.args) := (hA.head.frm f12 nT).mono fun _ h => .inl h
  have sepT2 : ∀ x, T x ∨ Tn x → a.next ≤ x ∧ x < w2.next ∧ x ≠ n8 := by
    rintro x (hx | hx)
    · have := hA.sepT x hx; exact ⟨this.1, by omega, this.2.2⟩
    · have := q4 x hx; have := hA.rule.lt; exact ⟨by omega, by omega, by omega⟩
  obtain ⟨e2, he2⟩ : ∃ e2, e2 = if e1 = 0 ∧ body.length = 6 then 8 else e1 := ⟨_, rfl⟩
  rw [← he2] at hfin
  have hl7' : (body ++ [t]).length ≤ 7 := by rw [List.length_append, List.length_singleton]; omega
  have hl64 : e2 = 0 → (body ++ [t]).length ≤ 6 := by
    intro h0
    rw [List.length_append, List.length_singleton]
    split at he2
    · omega
    · rename_i hn
      have : body.length ≠ 6 := fun h => hn ⟨by omega, h⟩
      omega
  have hfin' : (if rSign ws k1 [44] = true then rBody ws q (body ++ [t]) (k1 + 1) e2 else (body ++ [t], k1, e2)) = fin := hfin
  -- what is left, once the error is told
  have cont : ∀ {fr : Fr} {w3 : AW}, BF fr bp n8 v5 v7 → fr.get 9 = some (.ptr w1.next 0) → PSt w3 bp wv k1 e2 → Frm (fun b => b = bp) w2 w3 → WS tab (.code k_ref8_Program_p3 :: .endB 3 :: .code (.loop k_ref8_Program_p5) :: .endB 2 :: s) fr w3 Q := by
    rintro fr w3 ⟨f5, f6, f7, f8⟩ f9 g1 g2
    have n3 := g2.next
    have buf3 := buf2.frm g2 nS
    have rule3 := rule2.frm g2 hnb
    have c3 := c2.frm g2 (by show ¬ w1.next = bp; omega)
    have hS3 : ∀ b, S b → b < w3.next := fun b hb => by have := (hA.sepS b hb).2; omega
    obtain ⟨v', w5, S5, a1, a2, a3, a4⟩ := buf3.push (news := xs) (bytes := 48) hS3 (by omega) xl xo (by omega) (by omega)
    have nrule : ¬ S n8 := fun h => (hA.sepS _ h).2.2.1 rfl
    have nbp : ¬ S bp := fun h => nS _ h rfl
    obtain ⟨vone, vc⟩ := buf_one a2
    have rule5 := rule3.frm a3 nrule
    have pf : Frm (fun b => b = n8) w5 (w5.put n8 [.int .i64 (Int.ofNat hd.kind), .str hd.name, hv, v']) := put_frm
    have n5 := a3.next
    have b1 : w3.load n8 3 1 = some [bv] := by rw [rule3.load]; rfl
    have b2 := c3.all xl
    have b4 := elems_fresh (w := w3) (c := .known 1) (by omega : 0 < 1) (by rw [xl] : xs.length = 1 * 3)
    have b5 := rule5.set (i := 3) (v := v') (by simp) vone
    have sS5 : ∀ x, S5 x → a.next ≤ x ∧ x < w5.next ∧ x ≠ n8 ∧ ¬ (T x ∨ Tn x) := by
      intro x hx
      obtain ⟨m1, m2⟩ := a4 x hx
      have hr := hA.rule.lt
      rcases m2 with m2 | m2
      · obtain ⟨y1, y2, y3, y4⟩ := hA.sepS x m2
        refine ⟨y1, m1, y3, ?_⟩
        rintro (h | h)
        · exact y4 h
        · have := (q4 x h).1; omega
      · refine ⟨by omega, m1, by omega, fun h => ?_⟩
        have := (sepT2 x h).2.1; omega
    have nT2 : ∀ x, (T x ∨ Tn x) → ¬ x = bp := fun x hx => hx.elim (nT x) (nTn x)
    have nT3 : ∀ x, (T x ∨ Tn x) → ¬ S x := by
      rintro x (hx | hx) h
      · exact (hA.sepS x h).2.2.2 hx
      · have := (q4 x hx).1; have := (hA.sepS x h).2.1; omega
    have nT4 : ∀ x, (T x ∨ Tn x) → ¬ x = n8 := fun x hx => (sepT2 x hx).2.2
    have hA5 : BS a (w5.put n8 [.int .i64 (Int.ofNat hd.kind), .str hd.name, hv, v']) bp n8 wv hd hv (body ++ [t]) k1 e2 v' S5 (fun x => T x ∨ Tn x) (xss ++ [xs]) := by
      refine ⟨(g1.frm a3 nbp).frm pf (fun h => hnb h.symm), ?_, put_cb rule5.lt, ((head2.frm g2 nT2).frm a3 nT3).frm pf nT4, ?_, lits2.imp fun l ys hl => ((hl.frm g2 nT2).frm a3 nT3).frm pf nT4, fun x hx => sS5 x hx, fun x hx => ?_⟩
      · refine ((f02.tr g2).trans a3 (fun _ _ h => h) fun x hx h => ?_).out hn8 rfl
        have := (hA.sepS x h).1; omega
      · rw [List.length_append, List.length_singleton, List.flatten_append, List.flatten_cons, List.flatten_nil, List.append_nil]
        exact a2.frm pf fun x hx he => (sS5 x hx).2.2.1 he
      · have := sepT2 x hx; exact ⟨this.1, by have : (w5.put n8 [.int .i64 (Int.ofNat hd.kind), .str hd.name, hv, v']).next = w5.next := rfl; omega, this.2.2⟩
    have hov : over [V.int .i64 0, V.str [], V.nilslice] 0 xs = some xs := by
      have := over_mid [] [V.int .i64 0, V.str [], V.nilslice] [] xs (by rw [xl]; rfl)
      simpa using this
    refine WS_run 1000 (by simp only [go_sem, eRun_exit, Nat.reduceAdd, Nat.reduceLT, Nat.reduceEqDiff, reduceIte, reduceCtorEq, Int.reduceBEq, Int.reduceBNe, Int.reduceLT, Int.reduceLE, Int.reduceGT, Int.reduceGE, Int.reduceEq, Int.reduceAdd, Int.reduceSub, Int.reduceMul, Nat.reduceMul, Nat.reduceSub, Nat.reduceLeDiff, k_ref8_Program_p3, f6, f8, f9, vc, b1, b2, xl, evParts, fillV, hov, a1, b4, b5, List.length_cons, List.length_nil, List.set_cons_succ, List.set_cons_zero]; rfl) ?_
    refine WS_call (by simp only [go_sem, eRun_exit, Nat.reduceAdd, Nat.reduceLT, Nat.reduceEqDiff, reduceIte, reduceCtorEq, Int.reduceBEq, Int.reduceBNe, Int.reduceLT, Int.reduceLE, Int.reduceGT, Int.reduceGE, Int.reduceEq, Int.reduceAdd, Int.reduceSub, Int.reduceMul, Nat.reduceMul, Nat.reduceSub, Nat.reduceLeDiff]) (by simp only [go_sem, eRun_exit, Nat.reduceAdd, Nat.reduceLT, Nat.reduceEqDiff, reduceIte, reduceCtorEq, Int.reduceBEq, Int.reduceBNe, Int.reduceLT, Int.reduceLE, Int.reduceGT, Int.reduceGE, Int.reduceEq, Int.reduceAdd, Int.reduceSub, Int.reduceMul, Nat.reduceMul, Nat.reduceSub, Nat.reduceLeDiff]; rfl) ?_
    have hw5 := hw.frm hA5.frm fun x hx he => hw.no (he ▸ hx)
    refine psign_ok C hA5.p hw5 ?_
    cases hs : rSign ws k1 [44] with
    | true =>
      rw [hs, if_pos rfl] at hfin'
      have hks := rSign_lt hs
      have hwr : IntKind.wrap .i64 (Int.ofNat k1 + 1) = Int.ofNat (k1 + 1) := wrap_succ (by have := hw.len; omega)
      have l1 := hA5.p.l1
      have st := hA5.p.cb.set (i := 1) (v := .int .i64 (Int.ofNat (k1 + 1))) (by simp) rfl
      have pf2 : Frm (fun b => b = bp) (w5.put n8 [.int .i64 (Int.ofNat hd.kind), .str hd.name, hv, v']) ((w5.put n8 [.int .i64 (Int.ofNat hd.kind), .str hd.name, hv, v']).put bp ([wv, .int .i64 (Int.ofNat k1), .int .i64 (Int.ofNat e2)].set 1 (.int .i64 (Int.ofNat (k1 + 1))))) := put_frm
      refine WS_run 1000 (by simp only [go_sem, eRun_exit, Nat.reduceAdd, Nat.reduceLT, Nat.reduceEqDiff, reduceIte, reduceCtorEq, Int.reduceBEq, Int.reduceBNe, Int.reduceLT, Int.reduceLE, Int.reduceGT, Int.reduceGE, Int.reduceEq, Int.reduceAdd, Int.reduceSub, Int.reduceMul, Nat.reduceMul, Nat.reduceSub, Nat.reduceLeDiff, k_ref8_Program_p2, f6, f8, l1, hwr, st, List.length_cons, List.length_nil]; rfl) ?_
      exact ih q _ _ (by omega) ⟨body ++ [t], k1 + 1, e2, v', S5, _, _, ⟨(by simp only [go_sem, eRun_exit, Nat.reduceAdd, Nat.reduceLT, Nat.reduceEqDiff, reduceIte, reduceCtorEq, Int.reduceBEq, Int.reduceBNe, Int.reduceLT, Int.reduceLE, Int.reduceGT, Int.reduceGE, Int.reduceEq, Int.reduceAdd, Int.reduceSub, Int.reduceMul, Nat.reduceMul, Nat.reduceSub, Nat.reduceLeDiff, f5] <;> rfl), (by simp only [go_sem, eRun_exit, Nat.reduceAdd, Nat.reduceLT, Nat.reduceEqDiff, reduceIte, reduceCtorEq, Int.reduceBEq, Int.reduceBNe, Int.reduceLT, Int.reduceLE, Int.reduceGT, Int.reduceGE, Int.reduceEq, Int.reduceAdd, Int.reduceSub, Int.reduceMul, Nat.reduceMul, Nat.reduceSub, Nat.reduceLeDiff, f6] <;> rfl), (by simp only [go_sem, eRun_exit, Nat.reduceAdd, Nat.reduceLT, Nat.reduceEqDiff, reduceIte, reduceCtorEq, Int.reduceBEq, Int.reduceBNe, Int.reduceLT, Int.reduceLE, Int.reduceGT, Int.reduceGE, Int.reduceEq, Int.reduceAdd, Int.reduceSub, Int.reduceMul, Nat.reduceMul, Nat.reduceSub, Nat.reduceLeDiff, f7] <;> rfl), (by simp only [go_sem, eRun_exit, Nat.reduceAdd, Nat.reduceLT, Nat.reduceEqDiff, reduceIte, reduceCtorEq, Int.reduceBEq, Int.reduceBNe, Int.reduceLT, Int.reduceLE, Int.reduceGT, Int.reduceGE, Int.reduceEq, Int.reduceAdd, Int.reduceSub, Int.reduceMul, Nat.reduceMul, Nat.reduceSub, Nat.reduceLeDiff, f8] <;> rfl)⟩, ⟨⟨hA5.p.lt, AE.T.get_put_same⟩, hA5.frm.tr pf2, hA5.rule.frm pf2 hnb, hA5.head.frm pf2 nT2, hA5.buf.frm pf2 fun x hx he => by have := (sS5 x hx).1; omega, hA5.lits.imp fun l ys hl => hl.frm pf2 nT2, hA5.sepS, hA5.sepT⟩, hl7', hks, by omega, hfin', hl64⟩
    | false =>
      rw [hs, if_neg (by simp)] at hfin'
      refine WS_runB 1000 (by simp only [go_sem, Nat.reduceAdd, Nat.reduceLT, Nat.reduceEqDiff, reduceIte, reduceCtorEq, Int.reduceBEq, Int.reduceBNe, Int.reduceLT, Int.reduceLE, Int.reduceGT, Int.reduceGE, Int.reduceEq, Int.reduceAdd, Int.reduceSub, Int.reduceMul, Nat.reduceMul, Nat.reduceSub, Nat.reduceLeDiff, f6]; rfl) ?_
      exact out _ _ _ ⟨v', S5, _, _, ⟨(by simp only [go_sem, eRun_exit, Nat.reduceAdd, Nat.reduceLT, Nat.reduceEqDiff, reduceIte, reduceCtorEq, Int.reduceBEq, Int.reduceBNe, Int.reduceLT, Int.reduceLE, Int.reduceGT, Int.reduceGE, Int.reduceEq, Int.reduceAdd, Int.reduceSub, Int.reduceMul, Nat.reduceMul, Nat.reduceSub, Nat.reduceLeDiff, f5] <;> rfl), (by simp only [go_sem, eRun_exit, Nat.reduceAdd, Nat.reduceLT, Nat.reduceEqDiff, reduceIte, reduceCtorEq, Int.reduceBEq, Int.reduceBNe, Int.reduceLT, Int.reduceLE, Int.reduceGT, Int.reduceGE, Int.reduceEq, Int.reduceAdd, Int.reduceSub, Int.reduceMul, Nat.reduceMul, Nat.reduceSub, Nat.reduceLeDiff, f6] <;> rfl), (by simp only [go_sem, eRun_exit, Nat.reduceAdd, Nat.reduceLT, Nat.reduceEqDiff, reduceIte, reduceCtorEq, Int.reduceBEq, Int.reduceBNe, Int.reduceLT, Int.reduceLE, Int.reduceGT, Int.reduceGE, Int.reduceEq, Int.reduceAdd, Int.reduceSub, Int.reduceMul, Nat.reduceMul, Nat.reduceSub, Nat.reduceLeDiff, f7] <;> rfl), (by simp only [go_sem, eRun_exit, Nat.reduceAdd, Nat.reduceLT, Nat.reduceEqDiff, reduceIte, reduceCtorEq, Int.reduceBEq, Int.reduceBNe, Int.reduceLT, Int.reduceLE, Int.reduceGT, Int.reduceGE, Int.reduceEq, Int.reduceAdd, Int.reduceSub, Int.reduceMul, Nat.reduceMul, Nat.reduceSub, Nat.reduceLeDiff, f8] <;> rfl)⟩, by rw [← hfin']; exact hA5⟩ rfl
  by_cases h6 : e1 = 0 ∧ body.length = 6
  · obtain ⟨rfl, h6⟩ := h6
    rw [h6] at hlv
    rw [if_pos ⟨rfl, h6⟩] at he2
    subst he2
    refine WS_run 1000 (by simp only [go_sem, eRun_exit, Nat.reduceAdd, Nat.reduceLT, Nat.reduceEqDiff, reduceIte, reduceCtorEq, Int.reduceBEq, Int.reduceBNe, Int.reduceLT, Int.reduceLE, Int.reduceGT, Int.reduceGE, Int.reduceEq, Int.reduceAdd, Int.reduceSub, Int.reduceMul, Nat.reduceMul, Nat.reduceSub, Nat.reduceLeDiff, k_ref8_Program_p4, k_ref8_Program_p1, s2, xl, l2, la, hlv, f6, f8]; rfl) ?_
    refine WS_call (by simp only [go_sem, eRun_exit, Nat.reduceAdd, Nat.reduceLT, Nat.reduceEqDiff, reduceIte, reduceCtorEq, Int.reduceBEq, Int.reduceBNe, Int.reduceLT, Int.reduceLE, Int.reduceGT, Int.reduceGE, Int.reduceEq, Int.reduceAdd, Int.reduceSub, Int.reduceMul, Nat.reduceMul, Nat.reduceSub, Nat.reduceLeDiff]) (by simp only [go_sem, eRun_exit, Nat.reduceAdd, Nat.reduceLT, Nat.reduceEqDiff, reduceIte, reduceCtorEq, Int.reduceBEq, Int.reduceBNe, Int.reduceLT, Int.reduceLE, Int.reduceGT, Int.reduceGE, Int.reduceEq, Int.reduceAdd, Int.reduceSub, Int.reduceMul, Nat.reduceMul, Nat.reduceSub, Nat.reduceLeDiff]; rfl) ?_
    refine bad_ok C (x := 8) p2' fun w3 q3 q4 q5 => ?_
    refine WS_runB 1000 (by simp only [go_sem, eRun_exit, Nat.reduceAdd, Nat.reduceLT, Nat.reduceEqDiff, reduceIte, reduceCtorEq, Int.reduceBEq, Int.reduceBNe, Int.reduceLT, Int.reduceLE, Int.reduceGT, Int.reduceGE, Int.reduceEq, Int.reduceAdd, Int.reduceSub, Int.reduceMul, Nat.reduceMul, Nat.reduceSub, Nat.reduceLeDiff]; rfl) ?_
    exact cont ⟨(by simp only [go_sem, eRun_exit, Nat.reduceAdd, Nat.reduceLT, Nat.reduceEqDiff, reduceIte, reduceCtorEq, Int.reduceBEq, Int.reduceBNe, Int.reduceLT, Int.reduceLE, Int.reduceGT, Int.reduceGE, Int.reduceEq, Int.reduceAdd, Int.reduceSub, Int.reduceMul, Nat.reduceMul, Nat.reduceSub, Nat.reduceLeDiff, f5] <;> rfl), (by simp only [go_sem, eRun_exit, Nat.reduceAdd, Nat.reduceLT, Nat.reduceEqDiff, reduceIte, reduceCtorEq, Int.reduceBEq, Int.reduceBNe, Int.reduceLT, Int.reduceLE, Int.reduceGT, Int.reduceGE, Int.reduceEq, Int.reduceAdd, Int.reduceSub, Int.reduceMul, Nat.reduceMul, Nat.reduceSub, Nat.reduceLeDiff, f6] <;> rfl), (by simp only [go_sem, eRun_exit, Nat.reduceAdd, Nat.reduceLT, Nat.reduceEqDiff, reduceIte, reduceCtorEq, Int.reduceBEq, Int.reduceBNe, Int.reduceLT, Int.reduceLE, Int.reduceGT, Int.reduceGE, Int.reduceEq, Int.reduceAdd, Int.reduceSub, Int.reduceMul, Nat.reduceMul, Nat.reduceSub, Nat.reduceLeDiff, f7] <;> rfl), (by simp only [go_sem, eRun_exit, Nat.reduceAdd, Nat.reduceLT, Nat.reduceEqDiff, reduceIte, reduceCtorEq, Int.reduceBEq, Int.reduceBNe, Int.reduceLT, Int.reduceLE, Int.reduceGT, Int.reduceGE, Int.reduceEq, Int.reduceAdd, Int.reduceSub, Int.reduceMul, Nat.reduceMul, Nat.reduceSub, Nat.reduceLeDiff, f8] <;> rfl)⟩ (by simp only [go_sem, eRun_exit, Nat.reduceAdd, Nat.reduceLT, Nat.reduceEqDiff, reduceIte, reduceCtorEq, Int.reduceBEq, Int.reduceBNe, Int.reduceLT, Int.reduceLE, Int.reduceGT, Int.reduceGE, Int.reduceEq, Int.reduceAdd, Int.reduceSub, Int.reduceMul, Nat.reduceMul, Nat.reduceSub, Nat.reduceLeDiff] <;> rfl) q3 q4
  · rw [if_neg h6] at he2
    subst he2
    by_cases h0 : e2 = 0
    · have h6' : ¬ body.length = 6 := fun h => h6 ⟨h0, h⟩
      subst h0
      refine WS_runB 1000 (by simp only [go_sem, eRun_exit, Nat.reduceAdd, Nat.reduceLT, Nat.reduceEqDiff, reduceIte, reduceCtorEq, Int.reduceBEq, Int.reduceBNe, Int.reduceLT, Int.reduceLE, Int.reduceGT, Int.reduceGE, Int.reduceEq, Int.reduceAdd, Int.reduceSub, Int.reduceMul, Nat.reduceMul, Nat.reduceSub, Nat.reduceLeDiff, k_ref8_Program_p4, s2, xl, l2, la, hlv, h6', f6, f8]; rfl) ?_
      exact cont ⟨(by simp only [go_sem, eRun_exit, Nat.reduceAdd, Nat.reduceLT, Nat.reduceEqDiff, reduceIte, reduceCtorEq, Int.reduceBEq, Int.reduceBNe, Int.reduceLT, Int.reduceLE, Int.reduceGT, Int.reduceGE, Int.reduceEq, Int.reduceAdd, Int.reduceSub, Int.reduceMul, Nat.reduceMul, Nat.reduceSub, Nat.reduceLeDiff, f5] <;> rfl), (by simp only [go_sem, eRun_exit, Nat.reduceAdd, Nat.reduceLT, Nat.reduceEqDiff, reduceIte, reduceCtorEq, Int.reduceBEq, Int.reduceBNe, Int.reduceLT, Int.reduceLE, Int.reduceGT, Int.reduceGE, Int.reduceEq, Int.reduceAdd, Int.reduceSub, Int.reduceMul, Nat.reduceMul, Nat.reduceSub, Nat.reduceLeDiff, f6] <;> rfl), (by simp only [go_sem, eRun_exit, Nat.reduceAdd, Nat.reduceLT, Nat.reduceEqDiff, reduceIte, reduceCtorEq, Int.reduceBEq, Int.reduceBNe, Int.reduceLT, Int.reduceLE, Int.reduceGT, Int.reduceGE, Int.reduceEq, Int.reduceAdd, Int.reduceSub, Int.reduceMul, Nat.reduceMul, Nat.reduceSub, Nat.reduceLeDiff, f7] <;> rfl), (by simp only [go_sem, eRun_exit, Nat.reduceAdd, Nat.reduceLT, Nat.reduceEqDiff, reduceIte, reduceCtorEq, Int.reduceBEq, Int.reduceBNe, Int.reduceLT, Int.reduceLE, Int.reduceGT, Int.reduceGE, Int.reduceEq, Int.reduceAdd, Int.reduceSub, Int.reduceMul, Nat.reduceMul, Nat.reduceSub, Nat.reduceLeDiff, f8] <;> rfl)⟩ (by simp only [go_sem, eRun_exit, Nat.reduceAdd, Nat.reduceLT, Nat.reduceEqDiff, reduceIte, reduceCtorEq, Int.reduceBEq, Int.reduceBNe, Int.reduceLT, Int.reduceLE, Int.reduceGT, Int.reduceGE, Int.reduceEq, Int.reduceAdd, Int.reduceSub, Int.reduceMul, Nat.reduceMul, Nat.reduceSub, Nat.reduceLeDiff] <;> rfl) p2' (Frm.refl _)
    · refine WS_runB 1000 (by simp only [go_sem, eRun_exit, Nat.reduceAdd, Nat.reduceLT, Nat.reduceEqDiff, reduceIte, reduceCtorEq, Int.reduceBEq, Int.reduceBNe, Int.reduceLT, Int.reduceLE, Int.reduceGT, Int.reduceGE, Int.reduceEq, Int.reduceAdd, Int.reduceSub, Int.reduceMul, Nat.reduceMul, Nat.reduceSub, Nat.reduceLeDiff, k_ref8_Program_p4, s2, xl, l2, la, h0, f6, f8]; rfl) ?_
      exact cont ⟨(by simp only [go_sem, eRun_exit, Nat.reduceAdd, Nat.reduceLT, Nat.reduceEqDiff, reduceIte, reduceCtorEq, Int.reduceBEq, Int.reduceBNe, Int.reduceLT, Int.reduceLE, Int.reduceGT, Int.reduceGE, Int.reduceEq, Int.reduceAdd, Int.reduceSub, Int.reduceMul, Nat.reduceMul, Nat.reduceSub, Nat.reduceLeDiff, f5] <;> rfl), (by simp only [go_sem, eRun_exit, Nat.reduceAdd, Nat.reduceLT, Nat.reduceEqDiff, reduceIte, reduceCtorEq, Int.reduceBEq, Int.reduceBNe, Int.reduceLT, Int.reduceLE, Int.reduceGT, Int.reduceGE, Int.reduceEq, Int.reduceAdd, Int.reduceSub, Int.reduceMul, Nat.reduceMul, Nat.reduceSub, Nat.reduceLeDiff, f6] <;> rfl), (by simp only [go_sem, eRun_exit, Nat.reduceAdd, Nat.reduceLT, Nat.reduceEqDiff, reduceIte, reduceCtorEq, Int.reduceBEq, Int.reduceBNe, Int.reduceLT, Int.reduceLE, Int.reduceGT, Int.reduceGE, Int.reduceEq, Int.reduceAdd, Int.reduceSub, Int.reduceMul, Nat.reduceMul, Nat.reduceSub, Nat.reduceLeDiff, f7] <;> rfl), (by simp only [go_sem, eRun_exit, Nat.reduceAdd, Nat.reduceLT, Nat.reduceEqDiff, reduceIte, reduceCtorEq, Int.reduceBEq, Int.reduceBNe, Int.reduceLT, Int.reduceLE, Int.reduceGT, Int.reduceGE, Int.reduceEq, Int.reduceAdd, Int.reduceSub, Int.reduceMul, Nat.reduceMul, Nat.reduceSub, Nat.reduceLeDiff, f8] <;> rfl)⟩ (by simp only [go_sem, eRun_exit, Nat.reduceAdd, Nat.reduceLT, Nat.reduceEqDiff, reduceIte, reduceCtorEq, Int.reduceBEq, Int.reduceBNe, Int.reduceLT, Int.reduceLE, Int.reduceGT, Int.reduceGE, Int.reduceEq, Int.reduceAdd, Int.reduceSub, Int.reduceMul, Nat.reduceMul, Nat.reduceSub, Nat.reduceLeDiff] <;> rfl) p2' (Frm.refl _)
end Go.Proofs.Ytjidefnbancmfaa

/- The reference's parser: rules, programs. -/
set_option linter.unusedVariables false
set_option maxRecDepth 10000
set_option linter.unusedSimpArgs false
namespace Go.Proofs.Ytjidefnbancmfaa
open Go.AE Delphi
variable {tab : Tab}
/-- a rule's cells. -/
def RlC (T : Nat → Prop) (w : AW) (r : Rl) (xs : List V) : Prop := ∃ v u, xs = [.int .i64 (Int.ofNat r.head.kind), .str r.head.name, v, u] ∧ Rd T w v 3 r.head.args.length (tmsC r.head.args) ∧ RdL (LtC T) T w u 3 r.body
theorem RlC.frm {T S : Nat → Prop} {w w' : AW} {r : Rl} {xs : List V} (h : RlC T w r xs) (hf : Frm S w w') (hd : ∀ x, T x → ¬ S x) : RlC T w' r xs := by
  obtain ⟨v, u, h1, h2, h3⟩ := h
  exact ⟨v, u, h1, h2.frm hf hd, h3.frm (fun _ _ h => h.frm hf hd) hf hd⟩
theorem rdl_mono {T T' : Nat → Prop} {w : AW} {u : V} {l : List Lt} (h : RdL (LtC T) T w u 3 l) (ht : ∀ x, T x → T' x) : RdL (LtC T') T' w u 3 l := by
  obtain ⟨xss, h1, h2⟩ := h
  exact ⟨xss, h1.mono ht, h2.imp fun _ _ h => h.mono ht⟩
theorem RlC.mono {T T' : Nat → Prop} {w : AW} {r : Rl} {xs : List V} (h : RlC T w r xs) (ht : ∀ x, T x → T' x) : RlC T' w r xs := by
  obtain ⟨v, u, h1, h2, h3⟩ := h
  exact ⟨v, u, h1, h2.mono ht, rdl_mono h3 ht⟩
theorem RlC.one {T : Nat → Prop} {w : AW} {r : Rl} {xs : List V} (h : RlC T w r xs) : xs.length = 4 ∧ allOne xs = true := by
  obtain ⟨v, u, rfl, h2, xss, h3, _⟩ := h
  refine ⟨rfl, ?_⟩
  rcases h2.inv with ⟨rfl, _⟩ | ⟨_, _, _, rfl, _⟩ <;> rcases h3.inv with ⟨rfl, _⟩ | ⟨_, _, _, rfl, _⟩ <;> rfl
/-- one rule: as far as it is put to the others. -/
theorem clause_step (C : Codes tab) {Tw : Nat → Prop} {a : AW} {bp k : Nat} {wv : V} {ws : List Wd} {v5 v7 : V} {f : Fr} {s : List SI} {Q : Fr → AW → Prop} (hp : PSt a bp wv k 0) (hw : Wds Tw a bp wv ws) (hok : ∀ x ∈ ws, WOk x) (hT : ∀ x, Tw x → x < a.next) (hk : k ≤ ws.length)
    (f5 : f.get 5 = some v5) (f6 : f.get 6 = some (.ptr bp 0)) (f7 : f.get 7 = some v7)
    (h : ∀ f' w T xs n8, BF f' bp n8 v5 v7 → PSt w bp wv (rClause ws k 0).2.1 (rClause ws k 0).2.2 → Frm (fun b => b = bp) a w → CB w n8 xs → a.next ≤ n8 → RlC T w (rClause ws k 0).1 xs → (∀ x, T x → a.next ≤ x ∧ x < w.next ∧ x ≠ n8) → WS tab (.code k_ref8_Program_p9 :: s) f' w Q) : WS tab (.code k_ref8_Program_p11 :: s) f a Q := by
  have hlt := hp.lt
  have hwl := hw.len
  refine WS_run 1000 (by simp only [go_sem, eRun_exit, Nat.reduceAdd, Nat.reduceLT, Nat.reduceEqDiff, reduceIte, reduceCtorEq, Int.reduceBEq, Int.reduceBNe, Int.reduceLT, Int.reduceLE, Int.reduceGT, Int.reduceGE, Int.reduceEq, Int.reduceAdd, Int.reduceSub, Int.reduceMul, Nat.reduceMul, Nat.reduceSub, Nat.reduceLeDiff, k_ref8_Program_p11, f6]; rfl) ?_
  refine WS_call (by simp only [go_sem, eRun_exit, Nat.reduceAdd, Nat.reduceLT, Nat.reduceEqDiff, reduceIte, reduceCtorEq, Int.reduceBEq, Int.reduceBNe, Int.reduceLT, Int.reduceLE, Int.reduceGT, Int.reduceGE, Int.reduceEq, Int.reduceAdd, Int.reduceSub, Int.reduceMul, Nat.reduceMul, Nat.reduceSub, Nat.reduceLeDiff]) (by simp only [go_sem, eRun_exit, Nat.reduceAdd, Nat.reduceLT, Nat.reduceEqDiff, reduceIte, reduceCtorEq, Int.reduceBEq, Int.reduceBNe, Int.reduceLT, Int.reduceLE, Int.reduceGT, Int.reduceGE, Int.reduceEq, Int.reduceAdd, Int.reduceSub, Int.reduceMul, Nat.reduceMul, Nat.reduceSub, Nat.reduceLeDiff]; rfl) ?_
  refine patom_ok C hp hw hok hT hk fun w1 TH xs q1 q2 q3 q4 => ?_
  have hk1 := rAtom_le (e := 0) hk
  generalize hrt : rAtom ws k 0 = rt at q1 q3 hk1
  obtain ⟨hd, k1, e1⟩ := rt
  simp only at q1 q3 hk1
  obtain ⟨hv, rfl, hrd⟩ := q3
  have hvone : allOne [V.int .i64 (Int.ofNat hd.kind), V.str hd.name, hv, .nilslice] = true := by rcases hrd.inv with ⟨rfl, _⟩ | ⟨_, _, _, rfl, _⟩ <;> rfl
  obtain ⟨w2, s2, c2, r2, n2⟩ := boxed w1 (zs := [V.int .i64 0, V.str [], V.nilslice, V.nilslice]) (vs := [V.int .i64 (Int.ofNat hd.kind), V.str hd.name, hv, .nilslice]) rfl hvone
  have n1 := q2.next
  have p2 := q1.frm r2 fun h => h
  have f02 : Frm (fun b => b = bp) a w2 := q2.tr r2.no
  have hw2 := hw.frm f02 fun y hy he => hw.no (he ▸ hy)
  have hn8 : ¬ w1.next = bp := by omega
  have hrd2 := hrd.frm r2 fun _ _ h => h
  have l2 := p2.l2
  have g5 : f.get 5 = some v5 := f5
  -- the end: eat, and on
  have fin : ∀ {fr : Fr} {w : AW} {body : List Lt} {k' e' : Nat} {bv : V} {S T : Nat → Prop} {xss : List (List V)}, BF fr bp w1.next v5 v7 → fr.get 93 = some (.ptr bp 0) → k' ≤ ws.length → BS a w bp w1.next wv hd hv body k' e' bv S T xss → rClause ws k 0 = (⟨hd, body⟩, (rEat ws [46] k' e').1, (rEat ws [46] k' e').2) →
      WS tab (.ops [⟨some 94, none, .call (.const (.func (.func n_ref8_P_eat) [] [])) [(.tmp 93), (.const (.str [46]))]⟩] :: .code k_ref8_Program_p9 :: s) fr w Q := by
    rintro fr w body k' e' bv S T xss ⟨g5, g6, g7, g8⟩ g93 hk' hA hr
    refine WS_call (by simp only [wanted_none]) (by simp only [go_sem, g93]; rfl) ?_
    have hww := hw.frm hA.frm fun y hy he => hw.no (he ▸ hy)
    refine peat_ok C hA.p hww (by omega) fun w6 u1 u2 u3 => ?_
    refine WS_runB 1000 (by simp only [go_sem, eRun_exit, Nat.reduceAdd, Nat.reduceLT, Nat.reduceEqDiff, reduceIte, reduceCtorEq, Int.reduceBEq, Int.reduceBNe, Int.reduceLT, Int.reduceLE, Int.reduceGT, Int.reduceGE, Int.reduceEq, Int.reduceAdd, Int.reduceSub, Int.reduceMul, Nat.reduceMul, Nat.reduceSub, Nat.reduceLeDiff]; rfl) ?_
    rw [hr] at h
    have nS : ∀ x, S x → ¬ x = bp := fun x hx he => by have := (hA.sepS x hx).1; omega
    have nT : ∀ x, T x → ¬ x = bp := fun x hx he => by have := (hA.sepT x hx).1; omega
    have n6 := u2.next
    refine h _ w6 (fun x => S x ∨ T x) _ w1.next ⟨(by simp only [go_sem, eRun_exit, Nat.reduceAdd, Nat.reduceLT, Nat.reduceEqDiff, reduceIte, reduceCtorEq, Int.reduceBEq, Int.reduceBNe, Int.reduceLT, Int.reduceLE, Int.reduceGT, Int.reduceGE, Int.reduceEq, Int.reduceAdd, Int.reduceSub, Int.reduceMul, Nat.reduceMul, Nat.reduceSub, Nat.reduceLeDiff, g5] <;> rfl), (by simp only [go_sem, eRun_exit, Nat.reduceAdd, Nat.reduceLT, Nat.reduceEqDiff, reduceIte, reduceCtorEq, Int.reduceBEq, Int.reduceBNe, Int.reduceLT, Int.reduceLE, Int.reduceGT, Int.reduceGE, Int.reduceEq, Int.reduceAdd, Int.reduceSub, Int.reduceMul, Nat.reduceMul, Nat.reduceSub, Nat.reduceLeDiff, g6] <;> rfl), (by simp only [go_sem, eRun_exit, Nat.reduceAdd, Nat.reduceLT, Nat.reduceEqDiff, reduceIte, reduceCtorEq, Int.reduceBEq, Int.reduceBNe, Int.reduceLT, Int.reduceLE, Int.reduceGT, Int.reduceGE, Int.reduceEq, Int.reduceAdd, Int.reduceSub, Int.reduceMul, Nat.reduceMul, Nat.reduceSub, Nat.reduceLeDiff, g7] <;> rfl), (by simp only [go_sem, eRun_exit, Nat.reduceAdd, Nat.reduceLT, Nat.reduceEqDiff, reduceIte, reduceCtorEq, Int.reduceBEq, Int.reduceBNe, Int.reduceLT, Int.reduceLE, Int.reduceGT, Int.reduceGE, Int.reduceEq, Int.reduceAdd, Int.reduceSub, Int.reduceMul, Nat.reduceMul, Nat.reduceSub, Nat.reduceLeDiff, g8] <;> rfl)⟩ u1 (hA.frm.tr u2) (hA.rule.frm u2 hn8) n1 ⟨hv, bv, rfl, (hA.head.frm u2 nT).mono fun _ h => .inr h, xss, (hA.buf.rd.frm u2 nS).mono fun _ h => .inl h, hA.lits.imp fun l ys hl => (hl.frm u2 nT).mono fun _ h => .inr h⟩ ?_
    rintro x (hx | hx)
    · have := hA.sepS x hx; exact ⟨this.1, by omega, this.2.2.1⟩
    · have := hA.sepT x hx; exact ⟨this.1, by omega, this.2.2⟩
  have hA0 : BS a w2 bp w1.next wv hd hv [] k1 e1 .nilslice (fun _ => False) TH [] := ⟨p2, f02, c2, hrd2, .nil, .nil, fun _ h => h.elim, fun x hx => by have := q4 x hx; exact ⟨this.1, by omega, by omega⟩⟩
  have hov : over [V.int .i64 0, V.str [], V.nilslice, V.nilslice] 0 [V.int .i64 (Int.ofNat hd.kind), V.str hd.name, hv] = some [V.int .i64 (Int.ofNat hd.kind), V.str hd.name, hv, .nilslice] := rfl
  refine WS_run 1000 (by simp only [go_sem, eRun_exit, Nat.reduceAdd, Nat.reduceLT, Nat.reduceEqDiff, reduceIte, reduceCtorEq, Int.reduceBEq, Int.reduceBNe, Int.reduceLT, Int.reduceLE, Int.reduceGT, Int.reduceGE, Int.reduceEq, Int.reduceAdd, Int.reduceSub, Int.reduceMul, Nat.reduceMul, Nat.reduceSub, Nat.reduceLeDiff, f6, evParts, fillV, hov, s2, k_ref8_Program_p10, List.length_cons, List.length_nil]; rfl) ?_
  refine WS_call (by simp only [go_sem, eRun_exit, Nat.reduceAdd, Nat.reduceLT, Nat.reduceEqDiff, reduceIte, reduceCtorEq, Int.reduceBEq, Int.reduceBNe, Int.reduceLT, Int.reduceLE, Int.reduceGT, Int.reduceGE, Int.reduceEq, Int.reduceAdd, Int.reduceSub, Int.reduceMul, Nat.reduceMul, Nat.reduceSub, Nat.reduceLeDiff]) (by simp only [go_sem, eRun_exit, Nat.reduceAdd, Nat.reduceLT, Nat.reduceEqDiff, reduceIte, reduceCtorEq, Int.reduceBEq, Int.reduceBNe, Int.reduceLT, Int.reduceLE, Int.reduceGT, Int.reduceGE, Int.reduceEq, Int.reduceAdd, Int.reduceSub, Int.reduceMul, Nat.reduceMul, Nat.reduceSub, Nat.reduceLeDiff]; rfl) ?_
  refine psign_ok C p2 hw2 ?_
  cases hs : rSign ws k1 [58, 45] with
  | false =>
    have hr : rClause ws k 0 = (⟨hd, []⟩, (rEat ws [46] k1 e1).1, (rEat ws [46] k1 e1).2) := by
      unfold rClause
      rw [hrt]
      simp only [hs, Bool.false_eq_true, false_and, if_false]
    refine WS_run 1000 (by simp only [go_sem, eRun_exit, Nat.reduceAdd, Nat.reduceLT, Nat.reduceEqDiff, reduceIte, reduceCtorEq, Int.reduceBEq, Int.reduceBNe, Int.reduceLT, Int.reduceLE, Int.reduceGT, Int.reduceGE, Int.reduceEq, Int.reduceAdd, Int.reduceSub, Int.reduceMul, Nat.reduceMul, Nat.reduceSub, Nat.reduceLeDiff, f6]; rfl) ?_
    exact fin ⟨(by simp only [go_sem, eRun_exit, Nat.reduceAdd, Nat.reduceLT, Nat.reduceEqDiff, reduceIte, reduceCtorEq, Int.reduceBEq, Int.reduceBNe, Int.reduceLT, Int.reduceLE, Int.reduceGT, Int.reduceGE, Int.reduceEq, Int.reduceAdd, Int.reduceSub, Int.reduceMul, Nat.reduceMul, Nat.reduceSub, Nat.reduceLeDiff, f5] <;> rfl), (by simp only [go_sem, eRun_exit, Nat.reduceAdd, Nat.reduceLT, Nat.reduceEqDiff, reduceIte, reduceCtorEq, Int.reduceBEq, Int.reduceBNe, Int.reduceLT, Int.reduceLE, Int.reduceGT, Int.reduceGE, Int.reduceEq, Int.reduceAdd, Int.reduceSub, Int.reduceMul, Nat.reduceMul, Nat.reduceSub, Nat.reduceLeDiff, f6] <;> rfl), (by simp only [go_sem, eRun_exit, Nat.reduceAdd, Nat.reduceLT, Nat.reduceEqDiff, reduceIte, reduceCtorEq, Int.reduceBEq, Int.reduceBNe, Int.reduceLT, Int.reduceLE, Int.reduceGT, Int.reduceGE, Int.reduceEq, Int.reduceAdd, Int.reduceSub, Int.reduceMul, Nat.reduceMul, Nat.reduceSub, Nat.reduceLeDiff, f7] <;> rfl), (by simp only [go_sem, eRun_exit, Nat.reduceAdd, Nat.reduceLT, Nat.reduceEqDiff, reduceIte, reduceCtorEq, Int.reduceBEq, Int.reduceBNe, Int.reduceLT, Int.reduceLE, Int.reduceGT, Int.reduceGE, Int.reduceEq, Int.reduceAdd, Int.reduceSub, Int.reduceMul, Nat.reduceMul, Nat.reduceSub, Nat.reduceLeDiff] <;> rfl)⟩ (by simp only [go_sem, eRun_exit, Nat.reduceAdd, Nat.reduceLT, Nat.reduceEqDiff, reduceIte, reduceCtorEq, Int.reduceBEq, Int.reduceBNe, Int.reduceLT, Int.reduceLE, Int.reduceGT, Int.reduceGE, Int.reduceEq, Int.reduceAdd, Int.reduceSub, Int.reduceMul, Nat.reduceMul, Nat.reduceSub, Nat.reduceLeDiff] <;> rfl) hk1 hA0 hr
  | true =>
    by_cases he1 : e1 = 0
    case neg =>
      have hr : rClause ws k 0 = (⟨hd, []⟩, (rEat ws [46] k1 e1).1, (rEat ws [46] k1 e1).2) := by
        unfold rClause
        rw [hrt]
        simp only [hs, he1, and_false, if_false]
      refine WS_run 1000 (by simp only [go_sem, eRun_exit, Nat.reduceAdd, Nat.reduceLT, Nat.reduceEqDiff, reduceIte, reduceCtorEq, Int.reduceBEq, Int.reduceBNe, Int.reduceLT, Int.reduceLE, Int.reduceGT, Int.reduceGE, Int.reduceEq, Int.reduceAdd, Int.reduceSub, Int.reduceMul, Nat.reduceMul, Nat.reduceSub, Nat.reduceLeDiff, f6, l2, he1]; rfl) ?_
      exact fin ⟨(by simp only [go_sem, eRun_exit, Nat.reduceAdd, Nat.reduceLT, Nat.reduceEqDiff, reduceIte, reduceCtorEq, Int.reduceBEq, Int.reduceBNe, Int.reduceLT, Int.reduceLE, Int.reduceGT, Int.reduceGE, Int.reduceEq, Int.reduceAdd, Int.reduceSub, Int.reduceMul, Nat.reduceMul, Nat.reduceSub, Nat.reduceLeDiff, f5] <;> rfl), (by simp only [go_sem, eRun_exit, Nat.reduceAdd, Nat.reduceLT, Nat.reduceEqDiff, reduceIte, reduceCtorEq, Int.reduceBEq, Int.reduceBNe, Int.reduceLT, Int.reduceLE, Int.reduceGT, Int.reduceGE, Int.reduceEq, Int.reduceAdd, Int.reduceSub, Int.reduceMul, Nat.reduceMul, Nat.reduceSub, Nat.reduceLeDiff, f6] <;> rfl), (by simp only [go_sem, eRun_exit, Nat.reduceAdd, Nat.reduceLT, Nat.reduceEqDiff, reduceIte, reduceCtorEq, Int.reduceBEq, Int.reduceBNe, Int.reduceLT, Int.reduceLE, Int.reduceGT, Int.reduceGE, Int.reduceEq, Int.reduceAdd, Int.reduceSub, Int.reduceMul, Nat.reduceMul, Nat.reduceSub, Nat.reduceLeDiff, f7] <;> rfl), (by simp only [go_sem, eRun_exit, Nat.reduceAdd, Nat.reduceLT, Nat.reduceEqDiff, reduceIte, reduceCtorEq, Int.reduceBEq, Int.reduceBNe, Int.reduceLT, Int.reduceLE, Int.reduceGT, Int.reduceGE, Int.reduceEq, Int.reduceAdd, Int.reduceSub, Int.reduceMul, Nat.reduceMul, Nat.reduceSub, Nat.reduceLeDiff] <;> rfl)⟩ (by simp only [go_sem, eRun_exit, Nat.reduceAdd, Nat.reduceLT, Nat.reduceEqDiff, reduceIte, reduceCtorEq, Int.reduceBEq, Int.reduceBNe, Int.reduceLT, Int.reduceLE, Int.reduceGT, Int.reduceGE, Int.reduceEq, Int.reduceAdd, Int.reduceSub, Int.reduceMul, Nat.reduceMul, Nat.reduceSub, Nat.reduceLeDiff] <;> rfl) hk1 hA0 hr
    subst he1
    have hks := rSign_lt hs
    have hwr : IntKind.wrap .i64 (Int.ofNat k1 + 1) = Int.ofNat (k1 + 1) := wrap_succ (by omega)
    have l1 := p2.l1
    have st := p2.cb.set (i := 1) (v := .int .i64 (Int.ofNat (k1 + 1))) (by simp) rfl
    have pf2 : Frm (fun b => b = bp) w2 (w2.put bp ([wv, .int .i64 (Int.ofNat k1), .int .i64 (Int.ofNat 0)].set 1 (.int .i64 (Int.ofNat (k1 + 1))))) := put_frm
    refine WS_run 1000 (by simp only [go_sem, eRun_exit, Nat.reduceAdd, Nat.reduceLT, Nat.reduceEqDiff, reduceIte, reduceCtorEq, Int.reduceBEq, Int.reduceBNe, Int.reduceLT, Int.reduceLE, Int.reduceGT, Int.reduceGE, Int.reduceEq, Int.reduceAdd, Int.reduceSub, Int.reduceMul, Nat.reduceMul, Nat.reduceSub, Nat.reduceLeDiff, f6, l1, l2, hwr, st, k_ref8_Program_p6, List.length_cons, List.length_nil]; rfl) ?_
    refine WS_loopJ (BodI a bp w1.next wv hd hv ws v5 v7 (rBody ws (ws.length + 1) [] (k1 + 1) 0)) (BodJ a bp w1.next wv hd hv v5 v7 (rBody ws (ws.length + 1) [] (k1 + 1) 0)) (fun n f w hI ih out => body_step C hw hok hT hlt n1 hI ih out) ?_ (ws.length + 1)
      ⟨[], k1 + 1, 0, .nilslice, fun _ => False, TH, [], ⟨(by simp only [go_sem, eRun_exit, Nat.reduceAdd, Nat.reduceLT, Nat.reduceEqDiff, reduceIte, reduceCtorEq, Int.reduceBEq, Int.reduceBNe, Int.reduceLT, Int.reduceLE, Int.reduceGT, Int.reduceGE, Int.reduceEq, Int.reduceAdd, Int.reduceSub, Int.reduceMul, Nat.reduceMul, Nat.reduceSub, Nat.reduceLeDiff, f5] <;> rfl), (by simp only [go_sem, eRun_exit, Nat.reduceAdd, Nat.reduceLT, Nat.reduceEqDiff, reduceIte, reduceCtorEq, Int.reduceBEq, Int.reduceBNe, Int.reduceLT, Int.reduceLE, Int.reduceGT, Int.reduceGE, Int.reduceEq, Int.reduceAdd, Int.reduceSub, Int.reduceMul, Nat.reduceMul, Nat.reduceSub, Nat.reduceLeDiff, f6] <;> rfl), (by simp only [go_sem, eRun_exit, Nat.reduceAdd, Nat.reduceLT, Nat.reduceEqDiff, reduceIte, reduceCtorEq, Int.reduceBEq, Int.reduceBNe, Int.reduceLT, Int.reduceLE, Int.reduceGT, Int.reduceGE, Int.reduceEq, Int.reduceAdd, Int.reduceSub, Int.reduceMul, Nat.reduceMul, Nat.reduceSub, Nat.reduceLeDiff, f7] <;> rfl), (by simp only [go_sem, eRun_exit, Nat.reduceAdd, Nat.reduceLT, Nat.reduceEqDiff, reduceIte, reduceCtorEq, Int.reduceBEq, Int.reduceBNe, Int.reduceLT, Int.reduceLE, Int.reduceGT, Int.reduceGE, Int.reduceEq, Int.reduceAdd, Int.reduceSub, Int.reduceMul, Nat.reduceMul, Nat.reduceSub, Nat.reduceLeDiff] <;> rfl)⟩, ⟨⟨p2.lt, AE.T.get_put_same⟩, f02.tr pf2, c2.frm pf2 hn8, hrd2.frm pf2 fun x hx he => by have := (q4 x hx).1; omega, .nil, .nil, fun _ h => h.elim, hA0.sepT⟩, by simp, hks, by omega, rfl, by simp⟩
    rintro f' w ⟨bv, S, T, xss, hBF, hA⟩
    have hk5 := rBody_le (ws := ws) (ws.length + 1) [] (k1 + 1) 0 hks
    have hr : rClause ws k 0 = (⟨hd, (rBody ws (ws.length + 1) [] (k1 + 1) 0).1⟩, (rEat ws [46] (rBody ws (ws.length + 1) [] (k1 + 1) 0).2.1 (rBody ws (ws.length + 1) [] (k1 + 1) 0).2.2).1, (rEat ws [46] (rBody ws (ws.length + 1) [] (k1 + 1) 0).2.1 (rBody ws (ws.length + 1) [] (k1 + 1) 0).2.2).2) := by
      unfold rClause
      rw [hrt]
      simp only [hs, and_self, if_true]
    generalize rBody ws (ws.length + 1) [] (k1 + 1) 0 = rb at hA hk5 hr
    obtain ⟨body, k5, e5⟩ := rb
    obtain ⟨g5, g6, g7, g8⟩ := hBF
    refine WS_run 1000 (by simp only [go_sem, eRun_exit, Nat.reduceAdd, Nat.reduceLT, Nat.reduceEqDiff, reduceIte, reduceCtorEq, Int.reduceBEq, Int.reduceBNe, Int.reduceLT, Int.reduceLE, Int.reduceGT, Int.reduceGE, Int.reduceEq, Int.reduceAdd, Int.reduceSub, Int.reduceMul, Nat.reduceMul, Nat.reduceSub, Nat.reduceLeDiff, g6]; rfl) ?_
    exact fin ⟨(by simp only [go_sem, eRun_exit, Nat.reduceAdd, Nat.reduceLT, Nat.reduceEqDiff, reduceIte, reduceCtorEq, Int.reduceBEq, Int.reduceBNe, Int.reduceLT, Int.reduceLE, Int.reduceGT, Int.reduceGE, Int.reduceEq, Int.reduceAdd, Int.reduceSub, Int.reduceMul, Nat.reduceMul, Nat.reduceSub, Nat.reduceLeDiff, g5] <;> rfl), (by simp only [go_sem, eRun_exit, Nat.reduceAdd, Nat.reduceLT, Nat.reduceEqDiff, reduceIte, reduceCtorEq, Int.reduceBEq, Int.reduceBNe, Int.reduceLT, Int.reduceLE, Int.reduceGT, Int.reduceGE, Int.reduceEq, Int.reduceAdd, Int.reduceSub, Int.reduceMul, Nat.reduceMul, Nat.reduceSub, Nat.reduceLeDiff, g6] <;> rfl), (by simp only [go_sem, eRun_exit, Nat.reduceAdd, Nat.reduceLT, Nat.reduceEqDiff, reduceIte, reduceCtorEq, Int.reduceBEq, Int.reduceBNe, Int.reduceLT, Int.reduceLE, Int.reduceGT, Int.reduceGE, Int.reduceEq, Int.reduceAdd, Int.reduceSub, Int.reduceMul, Nat.reduceMul, Nat.reduceSub, Nat.reduceLeDiff, g7] <;> rfl), (by simp only [go_sem, eRun_exit, Nat.reduceAdd, Nat.reduceLT, Nat.reduceEqDiff, reduceIte, reduceCtorEq, Int.reduceBEq, Int.reduceBNe, Int.reduceLT, Int.reduceLE, Int.reduceGT, Int.reduceGE, Int.reduceEq, Int.reduceAdd, Int.reduceSub, Int.reduceMul, Nat.reduceMul, Nat.reduceSub, Nat.reduceLeDiff, g8] <;> rfl)⟩ (by simp only [go_sem, eRun_exit, Nat.reduceAdd, Nat.reduceLT, Nat.reduceEqDiff, reduceIte, reduceCtorEq, Int.reduceBEq, Int.reduceBNe, Int.reduceLT, Int.reduceLE, Int.reduceGT, Int.reduceGE, Int.reduceEq, Int.reduceAdd, Int.reduceSub, Int.reduceMul, Nat.reduceMul, Nat.reduceSub, Nat.reduceLeDiff] <;> rfl) hk5 hA hr
end Go.Proofs.Ytjidefnbancmfaa

/- Words as scanning gives them. -/
set_option linter.unusedVariables false
namespace Delphi
theorem scanP_ok : ∀ (n at' : Nat) (s : List Nat), (∀ c ∈ s, c < 256) → ((scanP n at' s).1.length ≤ s.length) ∧ ∀ w ∈ (scanP n at' s).1, w.text ≠ [] ∧ (w.kind ≠ 4 → w.text.length ≤ 16) ∧ 1 ≤ w.kind ∧ w.kind ≤ 4 ∧ ∀ c ∈ w.text, c < 256
  | 0, _, s, _ => by simp [scanP]
  | n + 1, at', s, hs => by
    simp only [scanP]
    split
    · simp
    · rename_i c t hu
      split
      · simp
      · rename_i hw
        have hb := blk_le false s
        have hu' : ∀ x ∈ s.drop (blk false s), x < 256 := fun x hx => hs x (List.mem_of_mem_drop hx)
        have hdl : (s.drop (blk false s)).length = s.length - blk false s := by simp
        have hle := lexWord_le (s.drop (blk false s))
        have hk : 1 ≤ (lexWord (s.drop (blk false s))).1 ∧ (lexWord (s.drop (blk false s))).1 ≤ 4 := by
          have hne : (lexWord (s.drop (blk false s))).2 ≠ 0 := fun h => hw (.inl h)
          revert hne
          unfold lexWord
          (repeat' split) <;> simp
        have hne : (lexWord (s.drop (blk false s))).2 ≠ 0 := fun h => hw (.inl h)
        obtain ⟨h1, h2⟩ := scanP_ok n (at' + blk false s + (lexWord (s.drop (blk false s))).2) ((s.drop (blk false s)).drop (lexWord (s.drop (blk false s))).2) fun x hx => hu' x (List.mem_of_mem_drop hx)
        refine ⟨?_, fun w hw' => ?_⟩
        · simp only [List.length_cons, List.length_drop] at *
          omega
        · rcases List.mem_cons.1 hw' with rfl | hw'
          · refine ⟨?_, fun h4 => ?_, hk.1, hk.2, fun x hx => hu' x (List.mem_of_mem_take hx)⟩
            · intro h
              have := congrArg List.length h
              simp only [List.length_take, List.length_nil] at this
              omega
            · have : (lexWord (s.drop (blk false s))).2 ≤ 16 := Nat.le_of_not_lt fun h => hw (.inr ⟨h4, h⟩)
              simp only [List.length_take]; omega
          · exact h2 w hw'
theorem scan_wok {s : List Nat} (hs : ∀ c ∈ s, c < 256) : (scan 0 s).1.length ≤ s.length ∧ ∀ w ∈ (scan 0 s).1, w.text ≠ [] ∧ (w.kind ≠ 4 → w.text.length ≤ 16) ∧ 1 ≤ w.kind ∧ w.kind ≤ 4 ∧ ∀ c ∈ w.text, c < 256 := scanP_ok _ _ _ hs
end Delphi
