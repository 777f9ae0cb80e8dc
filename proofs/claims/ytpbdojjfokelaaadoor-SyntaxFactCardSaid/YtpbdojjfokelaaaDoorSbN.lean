/- A part of the proof: PPar13, PPar14. -/
import Derived.Test.YtpbdojjfokelaaaDoorSbM
/- Facts and questions: the reference's; the law of facts. -/
set_option linter.unusedVariables false
set_option maxRecDepth 10000
set_option linter.unusedSimpArgs false
namespace Go.Proofs.YtpbdojjfokelaaaDoor
open Go.AE Delphi Val
variable {tab : Tab}
theorem rquery_ok (C : Codes tab) {s : List Nat} {aw : AW} {K : V → AW → Prop} (hs : s.length ≤ 1099511627776) (hb : ∀ x ∈ s, x < 256)
    (h : ∀ w xs T, LtC T w (rQuery s).1 xs → Frm (fun _ => False) aw w → (∀ x, T x → aw.next ≤ x ∧ x < w.next) → K (.tuple [.agg xs, .int .i64 (Int.ofNat (rQuery s).2)]) w) : WF tab n_ref8_Query [.str s] aw K := by
  refine WF_of C.c_ref8_Query rfl ?_
  obtain ⟨w0, e0, c0, r0, m0⟩ := box1 aw [.int .i64 0, .str [], .nilslice]
  refine WS_run 1000 (by simp only [go_sem, eRun_exit, Nat.reduceAdd, Nat.reduceLT, Nat.reduceEqDiff, reduceIte, reduceCtorEq, Nat.reduceLeDiff, k_ref8_Query, k_ref8_Query_p8, e0]; rfl) ?_
  refine WS_call (by simp only [go_sem, eRun_exit, Nat.reduceAdd, Nat.reduceLT, Nat.reduceEqDiff, reduceIte, reduceCtorEq, Nat.reduceLeDiff]) (by simp only [go_sem, eRun_exit, Nat.reduceAdd, Nat.reduceLT, Nat.reduceEqDiff, reduceIte, reduceCtorEq, Nat.reduceLeDiff]; rfl) ?_
  refine rscan_ok C hs (fun hl => ?_) fun hl v aw' hown hext => ?_
  · have hr : rQuery s = (Lt.zero, 8) := by unfold rQuery; rw [if_pos hl]
    rw [hr] at h
    have hst := c0.setAll (vs := [V.int .i64 0, V.str [], V.nilslice]) rfl rfl
    have hrl := (put_cb (l := [V.int .i64 0, V.str [], V.nilslice]) c0.lt).all (n := 3) rfl
    refine WS_run 1000 (by simp only [go_sem, eRun_exit, Nat.reduceAdd, Nat.reduceLT, Nat.reduceEqDiff, reduceIte, reduceCtorEq, Nat.reduceLeDiff, k_ref8_Query_p0, evParts, fillV, List.length_cons, List.length_nil, hst]; rfl) ?_
    refine WS_ret ⟨_, by simp only [go_sem, eRun_exit, Nat.reduceAdd, Nat.reduceLT, Nat.reduceEqDiff, reduceIte, reduceCtorEq, Nat.reduceLeDiff, k_ref8_Query, hrl]; rfl, ?_⟩
    exact h _ _ (fun _ => False) LtC.zero (r0.out (Nat.le_refl _) rfl) fun _ h => h.elim
  obtain ⟨e5, he5⟩ : ∃ e5 : Nat, e5 = if (scan 0 s).2 = true then 0 else 4 := ⟨_, rfl⟩
  have hk0 : (if (scan 0 s).2 = true then (0 : Int) else 4) = Int.ofNat e5 := by rw [he5]; split <;> rfl
  rw [hk0]
  have h8 : ¬ e5 = 8 := by rw [he5]; split <;> omega
  obtain ⟨wl, wok⟩ := scan_wok hb
  have hr : rQuery s = (let k := if rSign (scan 0 s).1 (rAtom (scan 0 s).1 0 0).2.1 [46] = true ∧ (rAtom (scan 0 s).1 0 0).2.2 = 0 then (rAtom (scan 0 s).1 0 0).2.1 + 1 else (rAtom (scan 0 s).1 0 0).2.1
      let e := rBad (if (rAtom (scan 0 s).1 0 0).2.2 = 0 ∧ k < (scan 0 s).1.length then 4 else (rAtom (scan 0 s).1 0 0).2.2) e5
      if e = 0 then ((rAtom (scan 0 s).1 0 0).1, 0) else (Lt.zero, e)) := by
    unfold rQuery; rw [if_neg (by omega), he5]
  rw [hr] at h
  clear hr he5 hk0
  generalize (scan 0 s).1 = ws at hown wl wok h
  have hrd := hown.rd
  have nx := hext.next
  have vc : v.cells = [v] := by rcases hrd.inv with ⟨rfl, _⟩ | ⟨_, _, _, rfl, _⟩ <;> rfl
  obtain ⟨w1, e1, c1, r1, m1⟩ := box1 aw' [v, .int .i64 0, .int .i64 0]
  have hov : over [V.nilslice, V.int .i64 0, V.int .i64 0] 0 [v] = some [v, V.int .i64 0, V.int .i64 0] := rfl
  have f0 : Frm (fun _ => False) w0 aw' := hext.frm (S := fun _ => False) fun x hx hn => by omega
  have f01 : Frm (fun _ => False) aw w1 := (r0.tr f0).tr r1
  have hp : PSt w1 aw'.next v 0 0 := ⟨c1.lt, c1.get⟩
  have hw : Wds (fun b => w0.next ≤ b ∧ b < aw'.next) w1 aw'.next v ws := ⟨hrd.frm r1 fun _ _ h => h, fun h => by omega, by omega⟩
  have hT : ∀ x, (w0.next ≤ x ∧ x < aw'.next) → x < w1.next := fun x hx => by omega
  refine WS_run 1000 (by simp only [go_sem, eRun_exit, Nat.reduceAdd, Nat.reduceLT, Nat.reduceEqDiff, reduceIte, reduceCtorEq, Nat.reduceLeDiff, h8, k_ref8_Query_p7, evParts, fillV, vc, hov, List.length_cons, List.length_nil, e1]; rfl) ?_
  refine WS_call (by simp only [go_sem, eRun_exit, Nat.reduceAdd, Nat.reduceLT, Nat.reduceEqDiff, reduceIte, reduceCtorEq, Nat.reduceLeDiff]) (by simp only [go_sem, eRun_exit, Nat.reduceAdd, Nat.reduceLT, Nat.reduceEqDiff, reduceIte, reduceCtorEq, Nat.reduceLeDiff]; rfl) ?_
  refine patom_ok C hp hw wok hT (Nat.zero_le _) fun w2 T xs q1 q2 q3 q4 => ?_
  obtain ⟨xl, xo⟩ := q3.one
  have n2 := q2.next
  obtain ⟨w3, s3, c3, r3, n3⟩ := boxed w2 (zs := [V.int .i64 0, V.str [], V.nilslice]) (vs := xs) (by rw [xl]; rfl) xo
  have hkl := rAtom_le (ws := ws) (k := 0) (e := 0) (Nat.zero_le _)
  have p3 := q1.frm r3 fun h => h
  have hw3 := (hw.frm q2 fun x hx he => by omega).frm r3 fun _ _ h => h
  have hl3 := q3.frm r3 fun _ _ h => h
  generalize rAtom ws 0 0 = ra at *
  obtain ⟨l, k1, e1'⟩ := ra
  simp only at h p3 hkl hl3 q3
  have hb2 : ¬ w2.next = aw'.next := by omega
  have hb0 : ¬ aw.next = aw'.next := by have := f0.next; omega
  have res3 : CB w3 aw.next [.int .i64 0, .str [], .nilslice] := (((c0.frm f0 fun h => h).frm r1 fun h => h).frm q2 hb0).frm r3 fun h => h
  have l2 := p3.l2
  -- the end
  have fin : ∀ {fr : Fr} {w : AW} {k e : Nat}, PSt w aw'.next v k e → Frm (fun b => b = aw'.next) w3 w → fr.get 2 = some (.ptr aw.next 0) → fr.get 6 = some (.ptr aw'.next 0) → fr.get 7 = some (.ptr w2.next 0) →
      (∀ {w : AW} {xs : List V} {T : Nat → Prop}, LtC T w (if e = 0 then l else Lt.zero) xs → Frm (fun _ => False) aw w → (∀ x, T x → aw.next ≤ x ∧ x < w.next) → K (.tuple [.agg xs, .int .i64 (Int.ofNat e)]) w) →
      WS tab [.code k_ref8_Query_p4] fr w (fun fr' aw' => ∃ vs, resV fr' aw' k_ref8_Query.results = some vs ∧ K (resOne vs) aw') := by
    intro fr w k e p g f2 f6 f7 hK
    have l2 := p.l2
    have ng := g.next
    have f05 : Frm (fun _ => False) aw w := f01.trans ((q2.tr r3.no).tr g) (fun _ _ h => h) fun x hx h => by have := f0.next; have := r0.next; omega
    have cw := res3.frm g hb0
    have hlw := hl3.frm g fun x hx he => by have := (q4 x hx).1; omega
    have b7 := (c3.frm g hb2).all xl
    by_cases h0 : e = 0
    · subst h0
      have hst := cw.setAll (vs := xs) (by rw [xl]; rfl) xo
      have hrl := (put_cb (l := xs) cw.lt).all (n := 3) xl
      refine WS_run 1000 (by simp only [go_sem, eRun_exit, Nat.reduceAdd, Nat.reduceLT, Nat.reduceEqDiff, reduceIte, reduceCtorEq, Nat.reduceLeDiff, k_ref8_Query_p4, f2, f6, f7, l2, b7, xl, hst]; rfl) ?_
      refine WS_ret ⟨_, by simp only [go_sem, eRun_exit, Nat.reduceAdd, Nat.reduceLT, Nat.reduceEqDiff, reduceIte, reduceCtorEq, Nat.reduceLeDiff, k_ref8_Query, f2, hrl]; rfl, ?_⟩
      have pf : Frm (fun b => b = aw.next) w (w.put aw.next xs) := put_frm
      have n01 := f01.next
      exact hK (T := T) (by rw [if_pos rfl]; exact hlw.frm pf fun x hx he => by have := (q4 x hx).1; omega) (f05.out (Nat.le_refl _) rfl) fun x hx => ⟨by have := (q4 x hx).1; omega, by have := (q4 x hx).2; show x < w.next; omega⟩
    · have hst := cw.setAll (vs := [V.int .i64 0, V.str [], V.nilslice]) rfl rfl
      have hrl := (put_cb (l := [V.int .i64 0, V.str [], V.nilslice]) cw.lt).all (n := 3) rfl
      have hl2 := (p.frm (put_frm (w := w) (b := aw.next) (l := [V.int .i64 0, V.str [], V.nilslice])) fun h => hb0 h.symm).l2
      refine WS_run 1000 (by simp only [go_sem, eRun_exit, Nat.reduceAdd, Nat.reduceLT, Nat.reduceEqDiff, reduceIte, reduceCtorEq, Nat.reduceLeDiff, k_ref8_Query_p4, k_ref8_Query_p3, f2, f6, l2, h0]; rfl) ?_
      refine WS_drawn ?_
      refine WDs_run 100 (by simp only [go_sem, eRun_exit, Nat.reduceAdd, Nat.reduceLT, Nat.reduceEqDiff, reduceIte, reduceCtorEq, Nat.reduceLeDiff, f2, f6, l2, evParts, fillV, List.length_cons, List.length_nil, hst]; rfl) ?_
      refine WDs_nil ⟨(show chkAll _ _ [(4, 5)] from by simp only [go_sem, eRun_exit, Nat.reduceAdd, Nat.reduceLT, Nat.reduceEqDiff, reduceIte, reduceCtorEq, Nat.reduceLeDiff, chkAll, chk, List.reverse_cons, List.reverse_nil, mkStp_fe, mkStp_v, mkStp_0, mkStp_1, List.getElem?_nil, false_or, or_true, or_false, exists_eq', Option.some.injEq, Prod.mk.injEq, Bool.true_eq_false, Bool.false_eq_true, and_true, true_and, implies_true,  f6, l2, hl2]), ?_⟩
      refine WS_ret ⟨_, by simp only [go_sem, eRun_exit, Nat.reduceAdd, Nat.reduceLT, Nat.reduceEqDiff, reduceIte, reduceCtorEq, Nat.reduceLeDiff, k_ref8_Query, f2, hrl]; rfl, ?_⟩
      exact hK (T := fun _ => False) (by rw [if_neg h0]; exact LtC.zero) (f05.out (Nat.le_refl _) rfl) fun _ h => h.elim
  -- from the place on
  obtain ⟨k2, hk2⟩ : ∃ k2, k2 = if rSign ws k1 [46] = true ∧ e1' = 0 then k1 + 1 else k1 := ⟨_, rfl⟩
  simp only [← hk2] at h
  have rest : ∀ {fr : Fr} {w : AW}, PSt w aw'.next v k2 e1' → Frm (fun b => b = aw'.next) w3 w → fr.get 2 = some (.ptr aw.next 0) → fr.get 5 = some (.int .i64 (Int.ofNat e5)) → fr.get 6 = some (.ptr aw'.next 0) → fr.get 7 = some (.ptr w2.next 0) →
      WS tab [.code k_ref8_Query_p5] fr w (fun fr' aw' => ∃ vs, resV fr' aw' k_ref8_Query.results = some vs ∧ K (resOne vs) aw') := by
    intro fr w p g f2 f5 f6 f7
    have m0 := p.l0
    have m1 := p.l1
    have m2 := p.l2
    have hwl : lenV v = some ws.length := (hw3.frm g fun x hx he => by omega).rd.lenV
    have last : ∀ {fr : Fr} {w5 : AW} {e : Nat}, PSt w5 aw'.next v k2 e → Frm (fun b => b = aw'.next) w3 w5 → e = (if e1' = 0 ∧ k2 < ws.length then 4 else e1') → fr.get 2 = some (.ptr aw.next 0) → fr.get 5 = some (.int .i64 (Int.ofNat e5)) → fr.get 6 = some (.ptr aw'.next 0) → fr.get 7 = some (.ptr w2.next 0) →
        WS tab (.code (.seq (.region [⟨some 57, none, .mov (.tmp 6)⟩, ⟨some 58, none, .mov (.tmp 5)⟩, ⟨some 59, none, .call (.const (.func (.func n_ref8_P_bad) [] [])) [(.tmp 57), (.tmp 58)]⟩]) k_ref8_Query_p4) :: []) fr w5 (fun fr' aw' => ∃ vs, resV fr' aw' k_ref8_Query.results = some vs ∧ K (resOne vs) aw') := by
      intro fr w5 e p5 g5 he f2 f5 f6 f7
      refine WS_run 1000 (by simp only [go_sem, eRun_exit, Nat.reduceAdd, Nat.reduceLT, Nat.reduceEqDiff, reduceIte, reduceCtorEq, Nat.reduceLeDiff, f5, f6]; rfl) ?_
      refine WS_call (by simp only [go_sem, eRun_exit, Nat.reduceAdd, Nat.reduceLT, Nat.reduceEqDiff, reduceIte, reduceCtorEq, Nat.reduceLeDiff]) (by simp only [go_sem, eRun_exit, Nat.reduceAdd, Nat.reduceLT, Nat.reduceEqDiff, reduceIte, reduceCtorEq, Nat.reduceLeDiff]; rfl) ?_
      refine bad_ok C (x := e5) p5 fun w6 u1 u2 u3 => ?_
      refine WS_runB 1000 (by simp only [go_sem, eRun_exit, Nat.reduceAdd, Nat.reduceLT, Nat.reduceEqDiff, reduceIte, reduceCtorEq, Nat.reduceLeDiff]; rfl) ?_
      refine fin u1 (g5.tr u2) (by simp only [go_sem, eRun_exit, Nat.reduceAdd, Nat.reduceLT, Nat.reduceEqDiff, reduceIte, reduceCtorEq, Nat.reduceLeDiff, f2] <;> rfl) (by simp only [go_sem, eRun_exit, Nat.reduceAdd, Nat.reduceLT, Nat.reduceEqDiff, reduceIte, reduceCtorEq, Nat.reduceLeDiff, f6] <;> rfl) (by simp only [go_sem, eRun_exit, Nat.reduceAdd, Nat.reduceLT, Nat.reduceEqDiff, reduceIte, reduceCtorEq, Nat.reduceLeDiff, f7] <;> rfl) ?_
      intro w xs T h1 h2 h3
      have h := h w xs T
      rw [← he] at h
      by_cases h0 : rBad e e5 = 0
      · rw [if_pos h0] at h1 h
        rw [h0]
        exact h h1 h2 h3
      · rw [if_neg h0] at h1 h
        exact h h1 h2 h3
    by_cases h0 : e1' = 0
    · subst h0
      by_cases hlt : k2 < ws.length
      · refine WS_run 1000 (by simp only [go_sem, eRun_exit, Nat.reduceAdd, Nat.reduceLT, Nat.reduceEqDiff, reduceIte, reduceCtorEq, Nat.reduceLeDiff, k_ref8_Query_p5, k_ref8_Query_p2, f6, m0, m1, m2, hwl, hlt]; rfl) ?_
        refine WS_call (by simp only [go_sem, eRun_exit, Nat.reduceAdd, Nat.reduceLT, Nat.reduceEqDiff, reduceIte, reduceCtorEq, Nat.reduceLeDiff]) (by simp only [go_sem, eRun_exit, Nat.reduceAdd, Nat.reduceLT, Nat.reduceEqDiff, reduceIte, reduceCtorEq, Nat.reduceLeDiff]; rfl) ?_
        refine bad_ok C (x := 4) p fun w6 u1 u2 u3 => ?_
        refine WS_runB 1 (by simp only [go_sem, eRun_exit, Nat.reduceAdd, Nat.reduceLT, Nat.reduceEqDiff, reduceIte, reduceCtorEq, Nat.reduceLeDiff]; rfl) ?_
        exact last u1 (g.tr u2) (by rw [if_pos ⟨rfl, hlt⟩]; rfl) (by simp only [go_sem, eRun_exit, Nat.reduceAdd, Nat.reduceLT, Nat.reduceEqDiff, reduceIte, reduceCtorEq, Nat.reduceLeDiff, f2] <;> rfl) (by simp only [go_sem, eRun_exit, Nat.reduceAdd, Nat.reduceLT, Nat.reduceEqDiff, reduceIte, reduceCtorEq, Nat.reduceLeDiff, f5] <;> rfl) (by simp only [go_sem, eRun_exit, Nat.reduceAdd, Nat.reduceLT, Nat.reduceEqDiff, reduceIte, reduceCtorEq, Nat.reduceLeDiff, f6] <;> rfl) (by simp only [go_sem, eRun_exit, Nat.reduceAdd, Nat.reduceLT, Nat.reduceEqDiff, reduceIte, reduceCtorEq, Nat.reduceLeDiff, f7] <;> rfl)
      · refine WS_runB 23 (by simp only [go_sem, eRun_exit, Nat.reduceAdd, Nat.reduceLT, Nat.reduceEqDiff, reduceIte, reduceCtorEq, Nat.reduceLeDiff, k_ref8_Query_p5, f6, m0, m1, m2, hwl, hlt]; rfl) ?_
        exact last p g (by rw [if_neg (fun h => hlt h.2)]) (by simp only [go_sem, eRun_exit, Nat.reduceAdd, Nat.reduceLT, Nat.reduceEqDiff, reduceIte, reduceCtorEq, Nat.reduceLeDiff, f2] <;> rfl) (by simp only [go_sem, eRun_exit, Nat.reduceAdd, Nat.reduceLT, Nat.reduceEqDiff, reduceIte, reduceCtorEq, Nat.reduceLeDiff, f5] <;> rfl) (by simp only [go_sem, eRun_exit, Nat.reduceAdd, Nat.reduceLT, Nat.reduceEqDiff, reduceIte, reduceCtorEq, Nat.reduceLeDiff, f6] <;> rfl) (by simp only [go_sem, eRun_exit, Nat.reduceAdd, Nat.reduceLT, Nat.reduceEqDiff, reduceIte, reduceCtorEq, Nat.reduceLeDiff, f7] <;> rfl)
    · refine WS_runB 23 (by simp only [go_sem, eRun_exit, Nat.reduceAdd, Nat.reduceLT, Nat.reduceEqDiff, reduceIte, reduceCtorEq, Nat.reduceLeDiff, k_ref8_Query_p5, f6, m2, h0]; rfl) ?_
      exact last p g (by rw [if_neg (fun h => h0 h.1)]) (by simp only [go_sem, eRun_exit, Nat.reduceAdd, Nat.reduceLT, Nat.reduceEqDiff, reduceIte, reduceCtorEq, Nat.reduceLeDiff, f2] <;> rfl) (by simp only [go_sem, eRun_exit, Nat.reduceAdd, Nat.reduceLT, Nat.reduceEqDiff, reduceIte, reduceCtorEq, Nat.reduceLeDiff, f5] <;> rfl) (by simp only [go_sem, eRun_exit, Nat.reduceAdd, Nat.reduceLT, Nat.reduceEqDiff, reduceIte, reduceCtorEq, Nat.reduceLeDiff, f6] <;> rfl) (by simp only [go_sem, eRun_exit, Nat.reduceAdd, Nat.reduceLT, Nat.reduceEqDiff, reduceIte, reduceCtorEq, Nat.reduceLeDiff, f7] <;> rfl)
  refine WS_run 1000 (by simp only [go_sem, eRun_exit, Nat.reduceAdd, Nat.reduceLT, Nat.reduceEqDiff, reduceIte, reduceCtorEq, Nat.reduceLeDiff, xl, s3, k_ref8_Query_p6]; rfl) ?_
  refine WS_call (by simp only [go_sem, eRun_exit, Nat.reduceAdd, Nat.reduceLT, Nat.reduceEqDiff, reduceIte, reduceCtorEq, Nat.reduceLeDiff]) (by simp only [go_sem, eRun_exit, Nat.reduceAdd, Nat.reduceLT, Nat.reduceEqDiff, reduceIte, reduceCtorEq, Nat.reduceLeDiff]; rfl) ?_
  refine psign_ok C p3 hw3 ?_
  cases hsg : rSign ws k1 [46] with
  | false =>
    rw [hsg] at hk2
    have hk2 : k2 = k1 := by rw [hk2]; simp
    subst hk2
    refine WS_runB 1000 (by simp only [go_sem, eRun_exit, Nat.reduceAdd, Nat.reduceLT, Nat.reduceEqDiff, reduceIte, reduceCtorEq, Nat.reduceLeDiff]; rfl) ?_
    exact rest p3 (Frm.refl _) (by simp only [go_sem, eRun_exit, Nat.reduceAdd, Nat.reduceLT, Nat.reduceEqDiff, reduceIte, reduceCtorEq, Nat.reduceLeDiff] <;> rfl) (by simp only [go_sem, eRun_exit, Nat.reduceAdd, Nat.reduceLT, Nat.reduceEqDiff, reduceIte, reduceCtorEq, Nat.reduceLeDiff] <;> rfl) (by simp only [go_sem, eRun_exit, Nat.reduceAdd, Nat.reduceLT, Nat.reduceEqDiff, reduceIte, reduceCtorEq, Nat.reduceLeDiff] <;> rfl) (by simp only [go_sem, eRun_exit, Nat.reduceAdd, Nat.reduceLT, Nat.reduceEqDiff, reduceIte, reduceCtorEq, Nat.reduceLeDiff] <;> rfl)
  | true =>
    by_cases h0 : e1' = 0
    · subst h0
      rw [hsg] at hk2
      have hk2 : k2 = k1 + 1 := by rw [hk2]; simp
      subst hk2
      have m1 := p3.l1
      have hks := rSign_lt hsg
      have hwr : IntKind.wrap .i64 (Int.ofNat k1 + 1) = Int.ofNat (k1 + 1) := wrap_succ (by omega)
      have st := p3.cb.set (i := 1) (v := .int .i64 (Int.ofNat (k1 + 1))) (by simp) rfl
      have hp4 : PSt (w3.put aw'.next ([v, .int .i64 (Int.ofNat k1), .int .i64 (Int.ofNat 0)].set 1 (.int .i64 (Int.ofNat (k1 + 1))))) aw'.next v (k1 + 1) 0 := ⟨p3.lt, AE.T.get_put_same⟩
      have g4 : Frm (fun b => b = aw'.next) w3 (w3.put aw'.next ([v, .int .i64 (Int.ofNat k1), .int .i64 (Int.ofNat 0)].set 1 (.int .i64 (Int.ofNat (k1 + 1))))) := put_frm
      generalize w3.put aw'.next ([v, .int .i64 (Int.ofNat k1), .int .i64 (Int.ofNat 0)].set 1 (.int .i64 (Int.ofNat (k1 + 1)))) = w4 at st hp4 g4
      refine WS_runB 1000 (by simp only [go_sem, eRun_exit, Nat.reduceAdd, Nat.reduceLT, Nat.reduceEqDiff, reduceIte, reduceCtorEq, Nat.reduceLeDiff, l2, k_ref8_Query_p1, m1, hwr, st, List.length_cons, List.length_nil]; rfl) ?_
      exact rest hp4 g4 (by simp only [go_sem, eRun_exit, Nat.reduceAdd, Nat.reduceLT, Nat.reduceEqDiff, reduceIte, reduceCtorEq, Nat.reduceLeDiff] <;> rfl) (by simp only [go_sem, eRun_exit, Nat.reduceAdd, Nat.reduceLT, Nat.reduceEqDiff, reduceIte, reduceCtorEq, Nat.reduceLeDiff] <;> rfl) (by simp only [go_sem, eRun_exit, Nat.reduceAdd, Nat.reduceLT, Nat.reduceEqDiff, reduceIte, reduceCtorEq, Nat.reduceLeDiff] <;> rfl) (by simp only [go_sem, eRun_exit, Nat.reduceAdd, Nat.reduceLT, Nat.reduceEqDiff, reduceIte, reduceCtorEq, Nat.reduceLeDiff] <;> rfl)
    · have hk2 : k2 = k1 := by rw [hk2, if_neg (fun h => h0 h.2)]
      subst hk2
      refine WS_runB 1000 (by simp only [go_sem, eRun_exit, Nat.reduceAdd, Nat.reduceLT, Nat.reduceEqDiff, reduceIte, reduceCtorEq, Nat.reduceLeDiff, l2, h0]; rfl) ?_
      exact rest p3 (Frm.refl _) (by simp only [go_sem, eRun_exit, Nat.reduceAdd, Nat.reduceLT, Nat.reduceEqDiff, reduceIte, reduceCtorEq, Nat.reduceLeDiff] <;> rfl) (by simp only [go_sem, eRun_exit, Nat.reduceAdd, Nat.reduceLT, Nat.reduceEqDiff, reduceIte, reduceCtorEq, Nat.reduceLeDiff] <;> rfl) (by simp only [go_sem, eRun_exit, Nat.reduceAdd, Nat.reduceLT, Nat.reduceEqDiff, reduceIte, reduceCtorEq, Nat.reduceLeDiff] <;> rfl) (by simp only [go_sem, eRun_exit, Nat.reduceAdd, Nat.reduceLT, Nat.reduceEqDiff, reduceIte, reduceCtorEq, Nat.reduceLeDiff] <;> rfl)
end Go.Proofs.YtpbdojjfokelaaaDoor

/- The law of facts. -/
set_option linter.unusedVariables false
set_option maxRecDepth 10000
set_option linter.unusedSimpArgs false
namespace Go.Proofs.YtpbdojjfokelaaaDoor
open Go.AE Delphi Val
variable {tab : Tab}
theorem rfact_ok (C : Codes tab) {s : List Nat} {aw : AW} {K : V → AW → Prop} (hs : s.length ≤ 1099511627776) (hb : ∀ x ∈ s, x < 256)
    (h : ∀ w xs T, FtC T w (rFact s).1 xs → Frm (fun _ => False) aw w → (∀ x, T x → aw.next ≤ x ∧ x < w.next) → K (.tuple [.agg xs, .int .i64 (Int.ofNat (rFact s).2)]) w) : WF tab n_ref8_Fact [.str s] aw K := by
  refine WF_of C.c_ref8_Fact rfl ?_
  obtain ⟨w0, e0, c0, r0, m0⟩ := box1 aw [.str [], .nilslice]
  refine WS_run 1000 (by simp only [go_sem, eRun_exit, Nat.reduceAdd, Nat.reduceLT, Nat.reduceEqDiff, reduceIte, reduceCtorEq, Nat.reduceLeDiff, k_ref8_Fact, k_ref8_Fact_p6, e0]; rfl) ?_
  refine WS_call (by simp only [go_sem, eRun_exit, Nat.reduceAdd, Nat.reduceLT, Nat.reduceEqDiff, reduceIte, reduceCtorEq, Nat.reduceLeDiff]) (by simp only [go_sem, eRun_exit, Nat.reduceAdd, Nat.reduceLT, Nat.reduceEqDiff, reduceIte, reduceCtorEq, Nat.reduceLeDiff]; rfl) ?_
  refine rquery_ok C hs hb fun w1 xs T q1 q2 q3 => ?_
  obtain ⟨xl, xo⟩ := q1.one
  have h5 := rQuery_args s
  obtain ⟨av, rfl, hrd⟩ := q1
  have n1 := q2.next
  obtain ⟨w3, s3, c3, r3, n3⟩ := boxed w1 (zs := [V.int .i64 0, V.str [], V.nilslice]) (vs := [.int .i64 (Int.ofNat (rQuery s).1.kind), .str (rQuery s).1.name, av]) rfl xo
  have f03 : Frm (fun _ => False) aw w3 := (r0.tr q2).tr r3
  have cr := ((c0.frm q2 fun h => h).frm r3 fun h => h)
  have hrd3 := hrd.frm r3 fun _ _ h => h
  by_cases he : (rQuery s).2 = 0
  case neg =>
    have hf : rFact s = (([], []), (rQuery s).2) := if_pos he
    rw [hf] at h
    have hst := cr.setAll (vs := [V.str [], V.nilslice]) rfl rfl
    have hrl := (put_cb (l := [V.str [], V.nilslice]) cr.lt).all (n := 2) rfl
    refine WS_run 1000 (by simp only [go_sem, eRun_exit, Nat.reduceAdd, Nat.reduceLT, Nat.reduceEqDiff, reduceIte, reduceCtorEq, Nat.reduceLeDiff, xl, s3, k_ref8_Fact_p5, k_ref8_Fact_p0, he, evParts, fillV, hst, List.length_cons, List.length_nil]; rfl) ?_
    refine WS_ret ⟨_, by simp only [go_sem, eRun_exit, Nat.reduceAdd, Nat.reduceLT, Nat.reduceEqDiff, reduceIte, reduceCtorEq, Nat.reduceLeDiff, k_ref8_Fact, hrl]; rfl, ?_⟩
    exact h _ _ (fun _ => False) ⟨.nilslice, rfl, .nil⟩ (f03.out (Nat.le_refl _) rfl) fun _ h => h.elim
  rw [he]
  refine WS_run 1000 (by simp only [go_sem, eRun_exit, Nat.reduceAdd, Nat.reduceLT, Nat.reduceEqDiff, reduceIte, reduceCtorEq, Nat.reduceLeDiff, xl, s3, k_ref8_Fact_p5, List.length_cons, List.length_nil]; rfl) ?_
  have hbad : ∀ (i : Nat) (t : Tm), (rQuery s).1.args[i]? = some t → t.kind = 1 → rFact s = (([], []), 4) := by
    intro i t ht hk
    unfold rFact
    rw [if_neg (by rw [he]; simp), if_pos]
    rw [List.any_eq_true]
    exact ⟨t, List.mem_of_getElem? ht, by rw [hk]; rfl⟩
  have hgood : (∀ (i : Nat) (t : Tm), i < (rQuery s).1.args.length → (rQuery s).1.args[i]? = some t → t.kind ≠ 1) → rFact s = (((rQuery s).1.name, (rQuery s).1.args), 0) := by
    intro hall
    unfold rFact
    rw [if_neg (by rw [he]; simp), if_neg]
    rw [List.any_eq_true]
    rintro ⟨t, ht, hk⟩
    obtain ⟨i, hi⟩ := List.getElem?_of_mem ht
    exact hall i t (List.getElem?_eq_some_iff.1 hi).1 hi (by simpa using hk)
  generalize (rQuery s).1 = l at *
  refine WS_loopJ (fun n f w => ∃ i, f.get 2 = some (.ptr aw.next 0) ∧ f.get 4 = some (.ptr w1.next 0) ∧ f.get 6 = some (.int .i64 (Int.ofNat i)) ∧ w = w3 ∧ i ≤ l.args.length ∧ n = l.args.length - i ∧ ∀ j t, j < i → l.args[j]? = some t → t.kind ≠ 1) (fun f w => f.get 2 = some (.ptr aw.next 0) ∧ f.get 4 = some (.ptr w1.next 0) ∧ w = w3 ∧ ∀ j t, j < l.args.length → l.args[j]? = some t → t.kind ≠ 1) ?_ ?_ l.args.length
    ⟨0, (by simp only [go_sem, eRun_exit, Nat.reduceAdd, Nat.reduceLT, Nat.reduceEqDiff, reduceIte, reduceCtorEq, Nat.reduceLeDiff] <;> rfl), (by simp only [go_sem, eRun_exit, Nat.reduceAdd, Nat.reduceLT, Nat.reduceEqDiff, reduceIte, reduceCtorEq, Nat.reduceLeDiff] <;> rfl), (by simp only [go_sem, eRun_exit, Nat.reduceAdd, Nat.reduceLT, Nat.reduceEqDiff, reduceIte, reduceCtorEq, Nat.reduceLeDiff] <;> rfl), rfl, Nat.zero_le _, rfl, fun j t hj => by omega⟩
  · rintro n f w ⟨i, f2, f4, f6, rfl, hi, rfl, hno⟩ ih out
    have l2 : w.load w1.next 2 1 = some [av] := CB.ld c3 2 1 _ rfl
    have hlv := hrd3.lenV
    by_cases hlt : i < l.args.length
    case neg =>
      obtain rfl : i = l.args.length := by omega
      refine WS_runB 1000 (by simp only [go_sem, Nat.reduceAdd, Nat.reduceLT, Nat.reduceEqDiff, reduceIte, reduceCtorEq, Nat.reduceLeDiff, k_ref8_Fact_p3, f4, f6, l2, hlv, hlt]; rfl) ?_
      exact out _ _ _ ⟨(by simp only [go_sem, eRun_exit, Nat.reduceAdd, Nat.reduceLT, Nat.reduceEqDiff, reduceIte, reduceCtorEq, Nat.reduceLeDiff, f2] <;> rfl), (by simp only [go_sem, eRun_exit, Nat.reduceAdd, Nat.reduceLT, Nat.reduceEqDiff, reduceIte, reduceCtorEq, Nat.reduceLeDiff, f4] <;> rfl), rfl, hno⟩ rfl
    obtain ⟨t, ht⟩ : ∃ t, l.args[i]? = some t := ⟨_, List.getElem?_eq_getElem hlt⟩
    obtain ⟨b, o, c, rfl, _, hbl, _, a0, _⟩ := tms_at hrd3 ht
    have hwr : IntKind.wrap .i64 (Int.ofNat i + 1) = Int.ofNat (i + 1) := wrap_succ (by omega)
    by_cases hk : t.kind = 1
    · rw [hbad i t ht hk] at h
      have hst := cr.setAll (vs := [V.str [], V.nilslice]) rfl rfl
      have hrl := (put_cb (l := [V.str [], V.nilslice]) cr.lt).all (n := 2) rfl
      rw [hk] at a0
      refine WS_run 1000 (by simp only [go_sem, eRun_exit, Nat.reduceAdd, Nat.reduceLT, Nat.reduceEqDiff, reduceIte, reduceCtorEq, Nat.reduceLeDiff, k_ref8_Fact_p3, k_ref8_Fact_p2, k_ref8_Fact_p1, f2, f4, f6, l2, hlv, hlt, a0, evParts, fillV, hst, List.length_cons, List.length_nil]; rfl) ?_
      refine WS_ret ⟨_, by simp only [go_sem, eRun_exit, Nat.reduceAdd, Nat.reduceLT, Nat.reduceEqDiff, reduceIte, reduceCtorEq, Nat.reduceLeDiff, k_ref8_Fact, f2, hrl]; rfl, ?_⟩
      exact h _ _ (fun _ => False) ⟨.nilslice, rfl, .nil⟩ (f03.out (Nat.le_refl _) rfl) fun _ h => h.elim
    · refine WS_run 1000 (by simp only [go_sem, eRun_exit, Nat.reduceAdd, Nat.reduceLT, Nat.reduceEqDiff, reduceIte, reduceCtorEq, Nat.reduceLeDiff, k_ref8_Fact_p3, k_ref8_Fact_p2, f2, f4, f6, l2, hlv, hlt, a0, hk, hwr]; rfl) ?_
      exact ih _ _ _ (by omega) ⟨i + 1, (by simp only [go_sem, eRun_exit, Nat.reduceAdd, Nat.reduceLT, Nat.reduceEqDiff, reduceIte, reduceCtorEq, Nat.reduceLeDiff, f2] <;> rfl), (by simp only [go_sem, eRun_exit, Nat.reduceAdd, Nat.reduceLT, Nat.reduceEqDiff, reduceIte, reduceCtorEq, Nat.reduceLeDiff, f4] <;> rfl), (by simp only [go_sem, eRun_exit, Nat.reduceAdd, Nat.reduceLT, Nat.reduceEqDiff, reduceIte, reduceCtorEq, Nat.reduceLeDiff] <;> rfl), rfl, by omega, rfl, fun j t' hj ht' => by
        rcases Nat.lt_succ_iff_lt_or_eq.1 hj with hj | rfl
        · exact hno j t' hj ht'
        · rw [ht] at ht'; cases ht'; exact hk⟩
  · rintro f w ⟨f2, f4, rfl, hno⟩
    rw [hgood hno] at h
    have k1 : w.load w1.next 1 1 = some [.str l.name] := CB.ld c3 1 1 _ rfl
    have k2 : w.load w1.next 2 1 = some [av] := CB.ld c3 2 1 _ rfl
    have hft : FtC T w (l.name, l.args) [.str l.name, av] := ⟨av, rfl, hrd3⟩
    have avc : av.cells = [av] := by rcases hrd3.inv with ⟨rfl, _⟩ | ⟨_, _, _, rfl, _⟩ <;> rfl
    have hov1 : over [V.str [], V.nilslice] 0 [V.str l.name] = some [V.str l.name, V.nilslice] := rfl
    have hov2 : over [V.str l.name, V.nilslice] 1 [av] = some [V.str l.name, av] := rfl
    have hst := cr.setAll (vs := [V.str l.name, av]) rfl hft.one.2
    have hrl := (put_cb (l := [V.str l.name, av]) cr.lt).all (n := 2) rfl
    have pf : Frm (fun b => b = aw.next) w (w.put aw.next [V.str l.name, av]) := put_frm
    refine WS_run 1000 (by simp only [go_sem, eRun_exit, Nat.reduceAdd, Nat.reduceLT, Nat.reduceEqDiff, reduceIte, reduceCtorEq, Nat.reduceLeDiff, k_ref8_Fact_p4, f2, f4, k1, k2, evParts, fillV, avc, hov1, hov2, hst, List.length_cons, List.length_nil]; rfl) ?_
    refine WS_ret ⟨_, by simp only [go_sem, eRun_exit, Nat.reduceAdd, Nat.reduceLT, Nat.reduceEqDiff, reduceIte, reduceCtorEq, Nat.reduceLeDiff, k_ref8_Fact, f2, hrl]; rfl, ?_⟩
    refine h _ _ T (hft.frm pf fun x hx he => by have := (q3 x hx).1; omega) (f03.out (Nat.le_refl _) rfl) fun x hx => ⟨by have := (q3 x hx).1; omega, by have := (q3 x hx).2; have := r3.next; show x < w.next; omega⟩
/-- a fact is not less than itself. -/
theorem lessSame_ok (C : Codes tab) {T T' : Nat → Prop} {l : List Nat × List Tm} {xs ys : List V} {aw : AW} {K : V → AW → Prop} (hx : FtC T aw l xs) (hy : FtC T' aw l ys) (hl : l.2.length ≤ 1000) (h : ∀ w, Frm (fun _ => False) aw w → K (.bool false) w) : WF tab n_ref14_LessFact [.agg xs, .agg ys] aw K := by
  refine WF_of C.c_ref14_LessFact rfl ?_
  obtain ⟨nm, args⟩ := l
  obtain ⟨xv, rfl, hx⟩ := hx
  obtain ⟨yv, rfl, hy⟩ := hy
  obtain ⟨w1, e1, c1, r1, m1⟩ := box1 aw [.str nm, xv]
  obtain ⟨w2, e2, c2, r2, m2⟩ := box1 w1 [.str nm, yv]
  have c1 := c1.frm r2 fun h => h
  have f02 := r1.tr r2
  have a0 := CB.ld c1 0 1 _ rfl
  have b0 := CB.ld c2 0 1 _ rfl
  have hxv := hx.lenV
  have hyv := hy.lenV
  simp only at hxv hyv hx hy hl
  have hsn := strNe_same nm
  refine WS_run 1000 (by simp only [go_sem, eRun_exit, Nat.reduceAdd, Nat.reduceLT, Nat.reduceEqDiff, reduceIte, reduceCtorEq, Nat.reduceLeDiff, k_ref14_LessFact, k_ref14_LessFact_p5, e1, e2, a0, b0, hsn]; rfl) ?_
  refine WS_loopJ (fun n f w => ∃ i, f.get 2 = some (.ptr aw.next 0) ∧ f.get 3 = some (.ptr w1.next 0) ∧ f.get 5 = some (.int .i64 (Int.ofNat i)) ∧ Frm (fun _ => False) w2 w ∧ i ≤ args.length ∧ n = args.length - i) (fun f w => f.get 2 = some (.ptr aw.next 0) ∧ f.get 3 = some (.ptr w1.next 0) ∧ Frm (fun _ => False) w2 w) ?_ ?_ args.length ⟨0, (by simp only [go_sem, eRun_exit, Nat.reduceAdd, Nat.reduceLT, Nat.reduceEqDiff, reduceIte, reduceCtorEq, Nat.reduceLeDiff] <;> rfl), (by simp only [go_sem, eRun_exit, Nat.reduceAdd, Nat.reduceLT, Nat.reduceEqDiff, reduceIte, reduceCtorEq, Nat.reduceLeDiff] <;> rfl), (by simp only [go_sem, eRun_exit, Nat.reduceAdd, Nat.reduceLT, Nat.reduceEqDiff, reduceIte, reduceCtorEq, Nat.reduceLeDiff] <;> rfl), Frm.refl _, Nat.zero_le _, rfl⟩
  · rintro n f w ⟨i, f2, f3, f5, g, hi, rfl⟩ ih out
    have a1 := CB.ld (c1.frm g fun h => h) 1 1 _ rfl
    have b1 := CB.ld (c2.frm g fun h => h) 1 1 _ rfl
    by_cases hlt : i < args.length
    case neg =>
      refine WS_runB 1000 (by simp only [go_sem, Nat.reduceAdd, Nat.reduceLT, Nat.reduceEqDiff, reduceIte, reduceCtorEq, Nat.reduceLeDiff, k_ref14_LessFact_p3, f2, f3, f5, a1, b1, hxv, hyv, hlt]; rfl) ?_
      exact out _ _ _ ⟨(by simp only [go_sem, eRun_exit, Nat.reduceAdd, Nat.reduceLT, Nat.reduceEqDiff, reduceIte, reduceCtorEq, Nat.reduceLeDiff, f2] <;> rfl), (by simp only [go_sem, eRun_exit, Nat.reduceAdd, Nat.reduceLT, Nat.reduceEqDiff, reduceIte, reduceCtorEq, Nat.reduceLeDiff, f3] <;> rfl), g⟩ rfl
    obtain ⟨t, ht⟩ : ∃ t, args[i]? = some t := ⟨_, List.getElem?_eq_getElem hlt⟩
    have f0w := f02.tr g
    obtain ⟨b, o, c, rfl, _, _, a3, _⟩ := tms_at (hx.frm f0w fun _ _ h => h) ht
    obtain ⟨b', o', c', rfl, _, _, b3, _⟩ := tms_at (hy.frm f0w fun _ _ h => h) ht
    have hwr : IntKind.wrap .i64 (Int.ofNat i + 1) = Int.ofNat (i + 1) := wrap_succ (by omega)
    refine WS_run 1000 (by simp only [go_sem, eRun_exit, Nat.reduceAdd, Nat.reduceLT, Nat.reduceEqDiff, reduceIte, reduceCtorEq, Nat.reduceLeDiff, k_ref14_LessFact_p3, k_ref14_LessFact_p2, f2, f3, f5, a1, b1, hxv, hyv, hlt, a3, b3]; rfl) ?_
    refine WS_call (by simp only [go_sem, eRun_exit, Nat.reduceAdd, Nat.reduceLT, Nat.reduceEqDiff, reduceIte, reduceCtorEq, Nat.reduceLeDiff]) (by simp only [go_sem, eRun_exit, Nat.reduceAdd, Nat.reduceLT, Nat.reduceEqDiff, reduceIte, reduceCtorEq, Nat.reduceLeDiff]; rfl) ?_
    refine rEq_ok C (a := tkOf t) (b := tkOf t) fun w' g' => ?_
    rw [tkSame_refl]
    refine WS_run 1000 (by simp only [go_sem, eRun_exit, Nat.reduceAdd, Nat.reduceLT, Nat.reduceEqDiff, reduceIte, reduceCtorEq, Nat.reduceLeDiff, f5, hwr]; rfl) ?_
    exact ih _ _ _ (by omega) ⟨i + 1, (by simp only [go_sem, eRun_exit, Nat.reduceAdd, Nat.reduceLT, Nat.reduceEqDiff, reduceIte, reduceCtorEq, Nat.reduceLeDiff, f2] <;> rfl), (by simp only [go_sem, eRun_exit, Nat.reduceAdd, Nat.reduceLT, Nat.reduceEqDiff, reduceIte, reduceCtorEq, Nat.reduceLeDiff, f3] <;> rfl), (by simp only [go_sem, eRun_exit, Nat.reduceAdd, Nat.reduceLT, Nat.reduceEqDiff, reduceIte, reduceCtorEq, Nat.reduceLeDiff] <;> rfl), g.tr g', by omega, rfl⟩
  · rintro f w ⟨f2, f3, g⟩
    have a1 := CB.ld (c1.frm g fun h => h) 1 1 _ rfl
    have b1 := CB.ld (c2.frm g fun h => h) 1 1 _ rfl
    have hnl : ¬ args.length < args.length := Nat.lt_irrefl _
    refine WS_run 1000 (by simp only [go_sem, eRun_exit, Nat.reduceAdd, Nat.reduceLT, Nat.reduceEqDiff, reduceIte, reduceCtorEq, Nat.reduceLeDiff, k_ref14_LessFact_p4, f2, f3, a1, b1, hxv, hyv, hnl]; rfl) ?_
    refine WS_ret ⟨_, by simp only [go_sem, eRun_exit, Nat.reduceAdd, Nat.reduceLT, Nat.reduceEqDiff, reduceIte, reduceCtorEq, Nat.reduceLeDiff, k_ref14_LessFact]; rfl, ?_⟩
    exact h w (f02.tr g)
theorem eqFact_ok (C : Codes tab) {T T' : Nat → Prop} {l : List Nat × List Tm} {xs ys : List V} {aw : AW} {K : V → AW → Prop} (hx : FtC T aw l xs) (hy : FtC T' aw l ys) (hl : l.2.length ≤ 1000) (h : ∀ w, Frm (fun _ => False) aw w → K (.bool true) w) : WF tab n_ref14_EqFact [.agg xs, .agg ys] aw K := by
  refine WF_of C.c_ref14_EqFact rfl ?_
  obtain ⟨xl, xo⟩ := hx.one
  obtain ⟨yl, yo⟩ := hy.one
  obtain ⟨w1, e1, c1, r1, m1⟩ := box1 aw xs
  obtain ⟨w2, e2, c2, r2, m2⟩ := box1 w1 ys
  have c1 := c1.frm r2 fun h => h
  have f02 := r1.tr r2
  have a0 := c1.all xl
  have b0 := c2.all yl
  have hc1 : V.cells (.agg xs) = xs := rfl
  have hc2 : V.cells (.agg ys) = ys := rfl
  refine WS_run 1000 (by simp only [go_sem, eRun_exit, Nat.reduceAdd, Nat.reduceLT, Nat.reduceEqDiff, reduceIte, reduceCtorEq, Nat.reduceLeDiff, k_ref14_EqFact, k_ref14_EqFact_p0, hc1, hc2, e1, e2, a0, b0]; rfl) ?_
  refine WS_call (by simp only [go_sem, eRun_exit, Nat.reduceAdd, Nat.reduceLT, Nat.reduceEqDiff, reduceIte, reduceCtorEq, Nat.reduceLeDiff]) (by simp only [go_sem, eRun_exit, Nat.reduceAdd, Nat.reduceLT, Nat.reduceEqDiff, reduceIte, reduceCtorEq, Nat.reduceLeDiff]; rfl) ?_
  refine lessSame_ok C (hx.frm f02 fun _ _ h => h) (hy.frm f02 fun _ _ h => h) hl fun w3 g3 => ?_
  have a0 := (c1.frm g3 fun h => h).all xl
  have b0 := (c2.frm g3 fun h => h).all yl
  have f03 := f02.tr g3
  refine WS_run 1000 (by simp only [go_sem, eRun_exit, Nat.reduceAdd, Nat.reduceLT, Nat.reduceEqDiff, reduceIte, reduceCtorEq, Nat.reduceLeDiff, a0, b0]; rfl) ?_
  refine WS_call (by simp only [go_sem, eRun_exit, Nat.reduceAdd, Nat.reduceLT, Nat.reduceEqDiff, reduceIte, reduceCtorEq, Nat.reduceLeDiff]) (by simp only [go_sem, eRun_exit, Nat.reduceAdd, Nat.reduceLT, Nat.reduceEqDiff, reduceIte, reduceCtorEq, Nat.reduceLeDiff]; rfl) ?_
  refine lessSame_ok C (hy.frm f03 fun _ _ h => h) (hx.frm f03 fun _ _ h => h) hl fun w4 g4 => ?_
  refine WS_run 1000 (by simp only [go_sem, eRun_exit, Nat.reduceAdd, Nat.reduceLT, Nat.reduceEqDiff, reduceIte, reduceCtorEq, Nat.reduceLeDiff]; rfl) ?_
  refine WS_ret ⟨_, by simp only [go_sem, eRun_exit, Nat.reduceAdd, Nat.reduceLT, Nat.reduceEqDiff, reduceIte, reduceCtorEq, Nat.reduceLeDiff, k_ref14_EqFact]; rfl, ?_⟩
  exact h w4 (f03.tr g4)
theorem rFact_args (s : List Nat) : (rFact s).1.2.length ≤ 5 := by
  have := rQuery_args s
  unfold rFact
  split
  · simp
  · split
    · simp
    · exact this
/-- for every text the law of facts answers true. -/
theorem syntaxFact_law (C : Codes tab) (F : Formats tab) (PI : Parses tab) (J : Joins tab) (E : ExtIdx tab) {s : List Nat} {aw : AW} (hb : ∀ x ∈ s, x < 256) : WF tab n_law8_SyntaxFact [.str s] aw (fun v aw' => v = .bool true ∧ Frm (fun _ => False) aw aw') := by
  refine WF_of C.c_law8_SyntaxFact rfl ?_
  refine WS_run 1000 (by simp only [go_sem, eRun_exit, Nat.reduceAdd, Nat.reduceLT, Nat.reduceEqDiff, reduceIte, reduceCtorEq, Nat.reduceLeDiff, k_law8_SyntaxFact]; rfl) ?_
  refine WS_call (by simp only [go_sem, eRun_exit, Nat.reduceAdd, Nat.reduceLT, Nat.reduceEqDiff, reduceIte, reduceCtorEq, Nat.reduceLeDiff]) (by simp only [go_sem, eRun_exit, Nat.reduceAdd, Nat.reduceLT, Nat.reduceEqDiff, reduceIte, reduceCtorEq, Nat.reduceLeDiff]; rfl) ?_
  refine begun8_ok C F PI J E fun w0 g0 => ?_
  refine WS_run 1000 (by simp only [go_sem, eRun_exit, Nat.reduceAdd, Nat.reduceLT, Nat.reduceEqDiff, reduceIte, reduceCtorEq, Nat.reduceLeDiff, k_law8_SyntaxFact_p6]; rfl) ?_
  refine WS_call (by simp only [go_sem, eRun_exit, Nat.reduceAdd, Nat.reduceLT, Nat.reduceEqDiff, reduceIte, reduceCtorEq, Nat.reduceLeDiff]) (by simp only [go_sem, eRun_exit, Nat.reduceAdd, Nat.reduceLT, Nat.reduceEqDiff, reduceIte, reduceCtorEq, Nat.reduceLeDiff]; rfl) ?_
  refine lcut_ok C (n := 200) ?_
  have hl : (s.take 200).length ≤ 200 := by rw [List.length_take]; omega
  have hbt : ∀ x ∈ s.take 200, x < 256 := fun x hx => hb x (List.mem_of_mem_take hx)
  generalize s.take 200 = t at hl hbt ⊢
  refine WS_run 1000 (by simp only [go_sem, eRun_exit, Nat.reduceAdd, Nat.reduceLT, Nat.reduceEqDiff, reduceIte, reduceCtorEq, Nat.reduceLeDiff, k_law8_SyntaxFact_p5]; rfl) ?_
  refine WS_call (by simp only [go_sem, eRun_exit, Nat.reduceAdd, Nat.reduceLT, Nat.reduceEqDiff, reduceIte, reduceCtorEq, Nat.reduceLeDiff]) (by simp only [go_sem, eRun_exit, Nat.reduceAdd, Nat.reduceLT, Nat.reduceEqDiff, reduceIte, reduceCtorEq, Nat.reduceLeDiff]; rfl) ?_
  refine sfact_ok C PI E (by omega) hbt fun w1 xs1 T1 h1 h2 h3 => ?_
  obtain ⟨xl1, xo1⟩ := h1.one
  obtain ⟨w2, s2, c2, r2, n2⟩ := boxed w1 (zs := [V.str [], V.nilslice]) (vs := xs1) (by rw [xl1]; rfl) xo1
  refine WS_run 1000 (by simp only [go_sem, eRun_exit, Nat.reduceAdd, Nat.reduceLT, Nat.reduceEqDiff, reduceIte, reduceCtorEq, Nat.reduceLeDiff, xl1, s2, k_law8_SyntaxFact_p4]; rfl) ?_
  refine WS_call (by simp only [go_sem, eRun_exit, Nat.reduceAdd, Nat.reduceLT, Nat.reduceEqDiff, reduceIte, reduceCtorEq, Nat.reduceLeDiff]) (by simp only [go_sem, eRun_exit, Nat.reduceAdd, Nat.reduceLT, Nat.reduceEqDiff, reduceIte, reduceCtorEq, Nat.reduceLeDiff]; rfl) ?_
  refine rfact_ok C (by omega) hbt fun w3 xs3 T3 i1 i2 i3 => ?_
  obtain ⟨xl3, xo3⟩ := i1.one
  obtain ⟨w4, s4, c4, r4, n4⟩ := boxed w3 (zs := [V.str [], V.nilslice]) (vs := xs3) (by rw [xl3]; rfl) xo3
  refine WS_run 1000 (by simp only [go_sem, eRun_exit, Nat.reduceAdd, Nat.reduceLT, Nat.reduceEqDiff, reduceIte, reduceCtorEq, Nat.reduceLeDiff, xl3, s4, k_law8_SyntaxFact_p3]; rfl) ?_
  refine WS_call (by simp only [go_sem, eRun_exit, Nat.reduceAdd, Nat.reduceLT, Nat.reduceEqDiff, reduceIte, reduceCtorEq, Nat.reduceLeDiff]) (by simp only [go_sem, eRun_exit, Nat.reduceAdd, Nat.reduceLT, Nat.reduceEqDiff, reduceIte, reduceCtorEq, Nat.reduceLeDiff]; rfl) ?_
  refine squery_ok C PI E (by omega) hbt fun w5 xs5 T5 j1 j2 j3 => ?_
  obtain ⟨xl5, xo5⟩ := j1.one
  obtain ⟨w6, s6, c6, r6, n6⟩ := boxed w5 (zs := [V.int .i64 0, V.str [], V.nilslice]) (vs := xs5) (by rw [xl5]; rfl) xo5
  refine WS_run 1000 (by simp only [go_sem, eRun_exit, Nat.reduceAdd, Nat.reduceLT, Nat.reduceEqDiff, reduceIte, reduceCtorEq, Nat.reduceLeDiff, xl5, s6, k_law8_SyntaxFact_p2]; rfl) ?_
  refine WS_call (by simp only [go_sem, eRun_exit, Nat.reduceAdd, Nat.reduceLT, Nat.reduceEqDiff, reduceIte, reduceCtorEq, Nat.reduceLeDiff]) (by simp only [go_sem, eRun_exit, Nat.reduceAdd, Nat.reduceLT, Nat.reduceEqDiff, reduceIte, reduceCtorEq, Nat.reduceLeDiff]; rfl) ?_
  refine rquery_ok C (by omega) hbt fun w7 xs7 T7 k1 k2 k3 => ?_
  obtain ⟨xl7, xo7⟩ := k1.one
  obtain ⟨w8, s8, c8, r8, n8⟩ := boxed w7 (zs := [V.int .i64 0, V.str [], V.nilslice]) (vs := xs7) (by rw [xl7]; rfl) xo7
  have hfa := rFact_args t
  have hqa := rQuery_args t
  have g24 : Frm (fun _ => False) w2 w4 := i2.tr r4
  have g46 : Frm (fun _ => False) w4 w6 := j2.tr r6
  have g68 : Frm (fun _ => False) w6 w8 := k2.tr r8
  have g08 : Frm (fun _ => False) aw w8 := ((((g0.tr h2).tr r2).tr g24).tr g46).tr g68
  have a2 := ((c2.frm (g24.tr g46) fun h => h).frm g68 fun h => h).all xl1
  have a4 := ((c4.frm g46 fun h => h).frm g68 fun h => h).all xl3
  have hF1 := h1.frm (r2.tr ((g24.tr g46).tr g68)) fun _ _ h => h
  have hF3 := i1.frm (r4.tr (g46.tr g68)) fun _ _ h => h
  have hL5 := j1.frm (r6.tr g68) fun _ _ h => h
  have hL7 := k1.frm r8 fun _ _ h => h
  -- the last part: both questions
  have last : ∀ {w : AW}, Frm (fun _ => False) w8 w → w.load w5.next 0 3 = some xs5 ∧ w.load w7.next 0 3 = some xs7 ∧ LtC T5 w (rQuery t).1 xs5 ∧ LtC T7 w (rQuery t).1 xs7 ∧ Frm (fun _ => False) aw w := by
    intro w g
    exact ⟨((c6.frm g68 fun h => h).frm g fun h => h).all xl5, (c8.frm g fun h => h).all xl7, hL5.frm g fun _ _ h => h, hL7.frm g fun _ _ h => h, g08.tr g⟩
  generalize (rFact t).1 = fc at hF1 hF3 hfa
  generalize (rFact t).2 = e at *
  generalize (rQuery t).1 = l at *
  generalize (rQuery t).2 = q at *
  by_cases he : e = 0
  · subst he
    refine WS_run 1000 (by simp only [go_sem, eRun_exit, Nat.reduceAdd, Nat.reduceLT, Nat.reduceEqDiff, reduceIte, reduceCtorEq, Nat.reduceLeDiff, xl7, s8, k_law8_SyntaxFact_p1, a2, a4]; rfl) ?_
    refine WS_call (by simp only [go_sem, eRun_exit, Nat.reduceAdd, Nat.reduceLT, Nat.reduceEqDiff, reduceIte, reduceCtorEq, Nat.reduceLeDiff]) (by simp only [go_sem, eRun_exit, Nat.reduceAdd, Nat.reduceLT, Nat.reduceEqDiff, reduceIte, reduceCtorEq, Nat.reduceLeDiff]; rfl) ?_
    refine eqFact_ok C hF1 hF3 (by omega) fun w9 g9 => ?_
    obtain ⟨b1, b2, b3, b4, b5⟩ := last g9
    by_cases hq : q = 0
    · subst hq
      refine WS_run 1000 (by simp only [go_sem, eRun_exit, Nat.reduceAdd, Nat.reduceLT, Nat.reduceEqDiff, reduceIte, reduceCtorEq, Nat.reduceLeDiff, b1, b2]; rfl) ?_
      refine WS_call (by simp only [go_sem, eRun_exit, Nat.reduceAdd, Nat.reduceLT, Nat.reduceEqDiff, reduceIte, reduceCtorEq, Nat.reduceLeDiff]) (by simp only [go_sem, eRun_exit, Nat.reduceAdd, Nat.reduceLT, Nat.reduceEqDiff, reduceIte, reduceCtorEq, Nat.reduceLeDiff]; rfl) ?_
      refine eqLit_ok C b3 b4 (by omega) fun w10 g10 => ?_
      refine WS_run 1000 (by simp only [go_sem, eRun_exit, Nat.reduceAdd, Nat.reduceLT, Nat.reduceEqDiff, reduceIte, reduceCtorEq, Nat.reduceLeDiff]; rfl) ?_
      refine WS_ret ⟨_, by simp only [go_sem, eRun_exit, Nat.reduceAdd, Nat.reduceLT, Nat.reduceEqDiff, reduceIte, reduceCtorEq, Nat.reduceLeDiff, k_law8_SyntaxFact]; rfl, ?_⟩
      exact ⟨rfl, b5.tr g10⟩
    · refine WS_run 1000 (by simp only [go_sem, eRun_exit, Nat.reduceAdd, Nat.reduceLT, Nat.reduceEqDiff, reduceIte, reduceCtorEq, Nat.reduceLeDiff, hq]; rfl) ?_
      refine WS_ret ⟨_, by simp only [go_sem, eRun_exit, Nat.reduceAdd, Nat.reduceLT, Nat.reduceEqDiff, reduceIte, reduceCtorEq, Nat.reduceLeDiff, k_law8_SyntaxFact]; rfl, ?_⟩
      exact ⟨rfl, b5⟩
  · obtain ⟨b1, b2, b3, b4, b5⟩ := last (Frm.refl w8)
    by_cases hq : q = 0
    · subst hq
      refine WS_run 1000 (by simp only [go_sem, eRun_exit, Nat.reduceAdd, Nat.reduceLT, Nat.reduceEqDiff, reduceIte, reduceCtorEq, Nat.reduceLeDiff, xl7, s8, k_law8_SyntaxFact_p1, he, b1, b2]; rfl) ?_
      refine WS_call (by simp only [go_sem, eRun_exit, Nat.reduceAdd, Nat.reduceLT, Nat.reduceEqDiff, reduceIte, reduceCtorEq, Nat.reduceLeDiff]) (by simp only [go_sem, eRun_exit, Nat.reduceAdd, Nat.reduceLT, Nat.reduceEqDiff, reduceIte, reduceCtorEq, Nat.reduceLeDiff]; rfl) ?_
      refine eqLit_ok C b3 b4 (by omega) fun w10 g10 => ?_
      refine WS_run 1000 (by simp only [go_sem, eRun_exit, Nat.reduceAdd, Nat.reduceLT, Nat.reduceEqDiff, reduceIte, reduceCtorEq, Nat.reduceLeDiff]; rfl) ?_
      refine WS_ret ⟨_, by simp only [go_sem, eRun_exit, Nat.reduceAdd, Nat.reduceLT, Nat.reduceEqDiff, reduceIte, reduceCtorEq, Nat.reduceLeDiff, k_law8_SyntaxFact]; rfl, ?_⟩
      exact ⟨rfl, b5.tr g10⟩
    · refine WS_run 1000 (by simp only [go_sem, eRun_exit, Nat.reduceAdd, Nat.reduceLT, Nat.reduceEqDiff, reduceIte, reduceCtorEq, Nat.reduceLeDiff, xl7, s8, k_law8_SyntaxFact_p1, he, hq]; rfl) ?_
      refine WS_ret ⟨_, by simp only [go_sem, eRun_exit, Nat.reduceAdd, Nat.reduceLT, Nat.reduceEqDiff, reduceIte, reduceCtorEq, Nat.reduceLeDiff, k_law8_SyntaxFact]; rfl, ?_⟩
      exact ⟨rfl, b5⟩
end Go.Proofs.YtpbdojjfokelaaaDoor
