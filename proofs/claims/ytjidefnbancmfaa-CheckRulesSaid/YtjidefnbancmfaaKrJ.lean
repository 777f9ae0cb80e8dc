/- A part of the proof: PSyn2, PSyn3, PSyn4. -/
import Derived.Test.YtjidefnbancmfaaKrI
/- The reference's parser: terms. -/
set_option linter.unusedVariables false
set_option maxRecDepth 10000
set_option linter.unusedSimpArgs false
namespace Go.Proofs.Ytjidefnbancmfaa
open Go.AE Delphi
variable {tab : Tab}
def tmC (t : Tm) : List V := [.int .i64 (Int.ofNat t.kind), .str t.name, .int .i64 t.num]
/-- words as scanning gives them. -/
def WOk (w : Wd) : Prop := w.text ≠ [] ∧ (w.kind ≠ 4 → w.text.length ≤ 16) ∧ 1 ≤ w.kind ∧ w.kind ≤ 4 ∧ ∀ c ∈ w.text, c < 256
theorem res_store {w : AW} {b : Nat} {l vs : List V} (hx : w.heap.get b = some (.cells l .own)) (hl : l.length = vs.length) (h1 : allOne vs = true) : w.store b 0 vs = some (w.turn b (.cells vs .own)) := by
  have : over l 0 vs = some vs := by
    have := over_mid [] l [] vs hl.symm
    simpa using this
  exact store_shr hx (.inl rfl : Shr (fun _ => True) w b .own) h1 this
theorem res_load {w : AW} {b : Nat} {vs : List V} {n : Nat} (h : vs.length = n) : (w.turn b (.cells vs .own)).load b 0 n = some vs := by
  have : (w.turn b (.cells vs .own)).heap.get b = some (.cells vs .own) := AE.T.get_put_same
  simp only [AW.load, this, AW.alive, List.drop_zero]
  exact takeN_all _ _ h
/-- a result's block is written at last. -/
theorem out_frm {aw w : AW} {bp : Nat} {zs vs : List V} (h : Frm (fun b => b = bp) (aw.fresh zs) w) : Frm (fun b => b = bp) aw (w.turn aw.next (.cells vs .own)) := by
  refine ((Frm.new (S := fun _ => False) aw (.cells zs .own)).trans h (fun _ _ h => h.elim) (fun _ _ h => h)).trans (T := fun b => b = aw.next) (turn_frm rfl (.inl rfl)) (fun _ _ h => h) ?_
  rintro x hx rfl; omega
theorem fresh_get {aw : AW} {l : List V} : (aw.fresh l).heap.get aw.next = some (.cells l .own) := AE.T.get_put_same
theorem u8sub {c : Nat} (h : c < 256) : IntKind.wrap .u8 (Int.ofNat c - 48) = Int.ofNat ((c + 208) % 256) := by
  have e : Int.ofNat ((c + 208) % 256) = (((c : Int) + 208) % 256) := by simp
  rw [e]
  show IntKind.wrap .u8 ((c : Int) - 48) = _
  unfold IntKind.wrap
  simp only [IntKind.signed, IntKind.bits, Bool.false_and, Bool.false_eq_true, if_false]
  omega
theorem i64_small {n : Nat} (h : n ≤ 9223372036854775807) : IntKind.wrap .i64 (Int.ofNat n) = Int.ofNat n := wrap_id (by show (-9223372036854775808 : Int) ≤ (n : Int); omega) (by show (n : Int) ≤ 9223372036854775807; omega)
/-- the digits. -/
def NumI (n0 n1 bp : Nat) (s : List Nat) (aw : AW) (q : Nat) (f : Fr) (w : AW) : Prop :=
  ∃ i m, f.get 0 = some (.ptr bp 0) ∧ f.get 2 = some (.ptr n0 0) ∧ f.get 3 = some (.ptr n1 0) ∧ f.get 4 = some (.int .i64 (Int.ofNat m)) ∧ f.get 5 = some (.int .i64 (Int.ofNat i)) ∧ w = aw ∧ i ≤ s.length ∧ rNum s = (s.drop i).foldl rDig m ∧ m + 29 ≤ 29 * 10 ^ i ∧ q = s.length - i
/-- term. -/
theorem pterm_ok (C : Codes tab) {Tw : Nat → Prop} {bp k e : Nat} {wv : V} {ws : List Wd} {aw : AW} {K : V → AW → Prop} (hp : PSt aw bp wv k e) (hw : Wds Tw aw bp wv ws) (hok : ∀ x ∈ ws, WOk x) (hT : ∀ x, Tw x → x < aw.next)
    (h : ∀ w, PSt w bp wv (rTerm ws k e).2.1 (rTerm ws k e).2.2 → Frm (fun b => b = bp) aw w → K (.agg (tmC (rTerm ws k e).1)) w) : WF tab n_ref8_P_term [.ptr bp 0] aw K := by
  refine WF_of C.c_ref8_P_term rfl ?_
  have hlt := hp.lt
  have hne : ¬ bp = aw.next := by omega
  obtain ⟨zs, hzs⟩ : ∃ zs, zs = [V.int .i64 0, V.str [], V.int .i64 0] := ⟨_, rfl⟩
  have hp1 := hp.frm (fresh_frm (S := fun _ => False) aw zs) fun h => h
  have hw1 := hw.frm (fresh_frm (S := fun _ => False) aw zs) fun _ _ h => h
  have hg := hp1.get
  have l0 : (aw.fresh zs).load bp 0 1 = some [wv] := by simp only [AW.load, hg]; rfl
  have l1 : (aw.fresh zs).load bp 1 1 = some [.int .i64 (Int.ofNat k)] := by simp only [AW.load, hg]; rfl
  have l2 : (aw.fresh zs).load bp 2 1 = some [.int .i64 (Int.ofNat e)] := by simp only [AW.load, hg]; rfl
  have hzl : zs.length = 3 := by rw [hzs]; rfl
  have hov : ∀ v : V, over zs 0 [v] = some [v, V.str [], V.int .i64 0] := fun v => by rw [hzs]; rfl
  -- the end of what is no term
  have fin : ∀ (w w' : AW) (k' : Nat), PSt w bp wv k' 4 → Frm (fun b => b = bp) (aw.fresh zs) w → (rTerm ws k e) = (Tm.zero, k', 4) → w' = w.turn aw.next (.cells zs .own) → K (.agg zs) w' := by
    intro w w' k' h1 h2 h3 h4
    subst h4
    rw [h3] at h
    have := h (w.turn aw.next (.cells zs .own)) (h1.frm (S := fun b => b = aw.next) (turn_frm rfl (.inl rfl)) (fun h => hne h)) (out_frm h2)
    rw [hzs] at this ⊢; exact this
  -- no word
  have no : ∀ {s : List SI} {fr : Fr}, rTerm ws k e = (Tm.zero, k, rBad e 4) → fr.get 0 = some (.ptr bp 0) → fr.get 2 = some (.ptr aw.next 0) → WS tab (.code k_ref8_P_term_p0 :: s) fr (aw.fresh zs) (fun fr' aw' => ∃ vs, resV fr' aw' k_ref8_P_term.results = some vs ∧ K (resOne vs) aw') := by
    intro s fr hr f0 f2
    refine WS_run 1000 (by simp only [go_sem, eRun_exit, Nat.reduceAdd, Nat.reduceLT, Nat.reduceEqDiff, reduceIte, reduceCtorEq, Int.reduceBEq, Int.reduceBNe, Int.reduceLT, Int.reduceLE, Int.reduceGT, Int.reduceGE, Int.reduceEq, Int.reduceAdd, Int.reduceSub, Int.reduceMul, Nat.reduceMul, Nat.reduceSub, Nat.reduceLeDiff, k_ref8_P_term_p0, f0, f2]; rfl) ?_
    refine WS_call (by simp only [go_sem, eRun_exit, Nat.reduceAdd, Nat.reduceLT, Nat.reduceEqDiff, reduceIte, reduceCtorEq, Int.reduceBEq, Int.reduceBNe, Int.reduceLT, Int.reduceLE, Int.reduceGT, Int.reduceGE, Int.reduceEq, Int.reduceAdd, Int.reduceSub, Int.reduceMul, Nat.reduceMul, Nat.reduceSub, Nat.reduceLeDiff]) (by simp only [go_sem, eRun_exit, Nat.reduceAdd, Nat.reduceLT, Nat.reduceEqDiff, reduceIte, reduceCtorEq, Int.reduceBEq, Int.reduceBNe, Int.reduceLT, Int.reduceLE, Int.reduceGT, Int.reduceGE, Int.reduceEq, Int.reduceAdd, Int.reduceSub, Int.reduceMul, Nat.reduceMul, Nat.reduceSub, Nat.reduceLeDiff]; rfl) ?_
    refine bad_ok C (x := 4) hp1 fun w q1 q2 q3 => ?_
    have hst := res_store (vs := [V.int .i64 0, V.str [], V.int .i64 0]) ((q2.heap aw.next (Nat.lt_succ_self _) (fun h => hne h.symm)).trans fresh_get) hzl rfl
    have hrl := res_load (w := w) (b := aw.next) (vs := [V.int .i64 0, V.str [], V.int .i64 0]) (n := 3) rfl
    refine WS_run 1000 (by simp only [go_sem, eRun_exit, Nat.reduceAdd, Nat.reduceLT, Nat.reduceEqDiff, reduceIte, reduceCtorEq, Int.reduceBEq, Int.reduceBNe, Int.reduceLT, Int.reduceLE, Int.reduceGT, Int.reduceGE, Int.reduceEq, Int.reduceAdd, Int.reduceSub, Int.reduceMul, Nat.reduceMul, Nat.reduceSub, Nat.reduceLeDiff, f0, f2, evParts, fillV, V.cells, hst, List.length_cons, List.length_nil]; rfl) ?_
    refine WS_ret ⟨_, by simp only [go_sem, eRun_exit, Nat.reduceAdd, Nat.reduceLT, Nat.reduceEqDiff, reduceIte, reduceCtorEq, Int.reduceBEq, Int.reduceBNe, Int.reduceLT, Int.reduceLE, Int.reduceGT, Int.reduceGE, Int.reduceEq, Int.reduceAdd, Int.reduceSub, Int.reduceMul, Nat.reduceMul, Nat.reduceSub, Nat.reduceLeDiff, k_ref8_P_term, f2, hrl]; rfl, ?_⟩
    rw [hr] at h
    have := h (w.turn aw.next (.cells zs .own)) (q1.frm (S := fun b => b = aw.next) (turn_frm rfl (.inl rfl)) (fun h => hne h)) (out_frm q2)
    rw [hzs] at this; exact this
  by_cases he : e = 0
  case neg =>
    have hr : rTerm ws k e = (Tm.zero, k, rBad e 4) := by simp [rTerm, rNext, he]
    refine WS_runB 1000 (by simp only [go_sem, eRun_exit, Nat.reduceAdd, Nat.reduceLT, Nat.reduceEqDiff, reduceIte, reduceCtorEq, Int.reduceBEq, Int.reduceBNe, Int.reduceLT, Int.reduceLE, Int.reduceGT, Int.reduceGE, Int.reduceEq, Int.reduceAdd, Int.reduceSub, Int.reduceMul, Nat.reduceMul, Nat.reduceSub, Nat.reduceLeDiff, k_ref8_P_term, ← hzs, l2, he]; rfl) ?_
    exact no hr (by simp only [go_sem, eRun_exit, Nat.reduceAdd, Nat.reduceLT, Nat.reduceEqDiff, reduceIte, reduceCtorEq, Int.reduceBEq, Int.reduceBNe, Int.reduceLT, Int.reduceLE, Int.reduceGT, Int.reduceGE, Int.reduceEq, Int.reduceAdd, Int.reduceSub, Int.reduceMul, Nat.reduceMul, Nat.reduceSub, Nat.reduceLeDiff] <;> rfl) (by simp only [go_sem, eRun_exit, Nat.reduceAdd, Nat.reduceLT, Nat.reduceEqDiff, reduceIte, reduceCtorEq, Int.reduceBEq, Int.reduceBNe, Int.reduceLT, Int.reduceLE, Int.reduceGT, Int.reduceGE, Int.reduceEq, Int.reduceAdd, Int.reduceSub, Int.reduceMul, Nat.reduceMul, Nat.reduceSub, Nat.reduceLeDiff] <;> rfl)
  subst he
  by_cases hk : ws.length ≤ k
  · have hr : rTerm ws k 0 = (Tm.zero, k, rBad 0 4) := by
      have : rNext ws k 0 = none := by unfold rNext; rw [if_pos rfl, List.getElem?_eq_none hk]
      simp only [rTerm, this]
    rcases hw1.at with ⟨rfl, rfl⟩ | ⟨b, o, c, rfl, hneb, hltb, hat⟩
    · have e1 : 0 ≤ k := by omega
      refine WS_runB 1000 (by simp only [go_sem, eRun_exit, Nat.reduceAdd, Nat.reduceLT, Nat.reduceEqDiff, reduceIte, reduceCtorEq, Int.reduceBEq, Int.reduceBNe, Int.reduceLT, Int.reduceLE, Int.reduceGT, Int.reduceGE, Int.reduceEq, Int.reduceAdd, Int.reduceSub, Int.reduceMul, Nat.reduceMul, Nat.reduceSub, Nat.reduceLeDiff, k_ref8_P_term, ← hzs, l0, l1, l2, e1]; rfl) ?_
      exact no hr (by simp only [go_sem, eRun_exit, Nat.reduceAdd, Nat.reduceLT, Nat.reduceEqDiff, reduceIte, reduceCtorEq, Int.reduceBEq, Int.reduceBNe, Int.reduceLT, Int.reduceLE, Int.reduceGT, Int.reduceGE, Int.reduceEq, Int.reduceAdd, Int.reduceSub, Int.reduceMul, Nat.reduceMul, Nat.reduceSub, Nat.reduceLeDiff] <;> rfl) (by simp only [go_sem, eRun_exit, Nat.reduceAdd, Nat.reduceLT, Nat.reduceEqDiff, reduceIte, reduceCtorEq, Int.reduceBEq, Int.reduceBNe, Int.reduceLT, Int.reduceLE, Int.reduceGT, Int.reduceGE, Int.reduceEq, Int.reduceAdd, Int.reduceSub, Int.reduceMul, Nat.reduceMul, Nat.reduceSub, Nat.reduceLeDiff] <;> rfl)
    · refine WS_runB 1000 (by simp only [go_sem, eRun_exit, Nat.reduceAdd, Nat.reduceLT, Nat.reduceEqDiff, reduceIte, reduceCtorEq, Int.reduceBEq, Int.reduceBNe, Int.reduceLT, Int.reduceLE, Int.reduceGT, Int.reduceGE, Int.reduceEq, Int.reduceAdd, Int.reduceSub, Int.reduceMul, Nat.reduceMul, Nat.reduceSub, Nat.reduceLeDiff, k_ref8_P_term, ← hzs, l0, l1, l2, hk]; rfl) ?_
      exact no hr (by simp only [go_sem, eRun_exit, Nat.reduceAdd, Nat.reduceLT, Nat.reduceEqDiff, reduceIte, reduceCtorEq, Int.reduceBEq, Int.reduceBNe, Int.reduceLT, Int.reduceLE, Int.reduceGT, Int.reduceGE, Int.reduceEq, Int.reduceAdd, Int.reduceSub, Int.reduceMul, Nat.reduceMul, Nat.reduceSub, Nat.reduceLeDiff] <;> rfl) (by simp only [go_sem, eRun_exit, Nat.reduceAdd, Nat.reduceLT, Nat.reduceEqDiff, reduceIte, reduceCtorEq, Int.reduceBEq, Int.reduceBNe, Int.reduceLT, Int.reduceLE, Int.reduceGT, Int.reduceGE, Int.reduceEq, Int.reduceAdd, Int.reduceSub, Int.reduceMul, Nat.reduceMul, Nat.reduceSub, Nat.reduceLeDiff] <;> rfl)
  have hkl : k < ws.length := by omega
  obtain ⟨x, hx⟩ : ∃ x, ws[k]? = some x := ⟨_, List.getElem?_eq_getElem hkl⟩
  have hnx : rNext ws k 0 = some x := by unfold rNext; rw [if_pos rfl, hx]
  obtain ⟨x1, x2, x3, x4, x5⟩ := hok x (List.mem_of_getElem? hx)
  rcases hw1.at with ⟨rfl, rfl⟩ | ⟨b, o, c, rfl, hneb, hltb, hat⟩
  · simp at hkl
  obtain ⟨a1, a2, a3⟩ := hat k x hx
  by_cases h4 : x.kind = 4
  · have hr : rTerm ws k 0 = (Tm.zero, k, rBad 0 4) := by
      simp only [rTerm, hnx]
      rw [if_pos h4]; rfl
    refine WS_runB 1000 (by simp only [go_sem, eRun_exit, Nat.reduceAdd, Nat.reduceLT, Nat.reduceEqDiff, reduceIte, reduceCtorEq, Int.reduceBEq, Int.reduceBNe, Int.reduceLT, Int.reduceLE, Int.reduceGT, Int.reduceGE, Int.reduceEq, Int.reduceAdd, Int.reduceSub, Int.reduceMul, Nat.reduceMul, Nat.reduceSub, Nat.reduceLeDiff, k_ref8_P_term, ← hzs, l0, l1, l2, hk, hkl, a1, h4]; rfl) ?_
    exact no hr (by simp only [go_sem, eRun_exit, Nat.reduceAdd, Nat.reduceLT, Nat.reduceEqDiff, reduceIte, reduceCtorEq, Int.reduceBEq, Int.reduceBNe, Int.reduceLT, Int.reduceLE, Int.reduceGT, Int.reduceGE, Int.reduceEq, Int.reduceAdd, Int.reduceSub, Int.reduceMul, Nat.reduceMul, Nat.reduceSub, Nat.reduceLeDiff] <;> rfl) (by simp only [go_sem, eRun_exit, Nat.reduceAdd, Nat.reduceLT, Nat.reduceEqDiff, reduceIte, reduceCtorEq, Int.reduceBEq, Int.reduceBNe, Int.reduceLT, Int.reduceLE, Int.reduceGT, Int.reduceGE, Int.reduceEq, Int.reduceAdd, Int.reduceSub, Int.reduceMul, Nat.reduceMul, Nat.reduceSub, Nat.reduceLeDiff] <;> rfl)
  -- a word
  refine WS_run 1000 (by simp only [go_sem, eRun_exit, Nat.reduceAdd, Nat.reduceLT, Nat.reduceEqDiff, reduceIte, reduceCtorEq, Int.reduceBEq, Int.reduceBNe, Int.reduceLT, Int.reduceLE, Int.reduceGT, Int.reduceGE, Int.reduceEq, Int.reduceAdd, Int.reduceSub, Int.reduceMul, Nat.reduceMul, Nat.reduceSub, Nat.reduceLeDiff, k_ref8_P_term, ← hzs, l0, l1, l2, hk, hkl, a1, h4]; rfl) ?_
  refine WS_drawn ?_
  have hbn : ¬ b = (aw.fresh zs).next := by omega
  have lift : ∀ {b' o' n' l'}, b' < (aw.fresh zs).next → (aw.fresh zs).load b' o' n' = some l' → ((aw.fresh zs).fresh zs).load b' o' n' = some l' := by
    intro b' o' n' l' hb hl
    have : ((aw.fresh zs).fresh zs).heap.get b' = (aw.fresh zs).heap.get b' := AE.T.get_put_ne (by omega)
    simp only [AW.load] at hl ⊢
    rw [this]; exact hl
  have m0 := lift hp1.lt l0
  have m1 := lift hp1.lt l1
  have m3 := lift hltb a3
  have hst := res_store (w := (aw.fresh zs).fresh zs) (vs := wdCells x) fresh_get hzl rfl
  refine WDs_run 100 (by simp only [go_sem, eRun_exit, Nat.reduceAdd, Nat.reduceLT, Nat.reduceEqDiff, reduceIte, reduceCtorEq, Int.reduceBEq, Int.reduceBNe, Int.reduceLT, Int.reduceLE, Int.reduceGT, Int.reduceGE, Int.reduceEq, Int.reduceAdd, Int.reduceSub, Int.reduceMul, Nat.reduceMul, Nat.reduceSub, Nat.reduceLeDiff, ← hzs, l0, l1, hkl, a3, wdCells_len, hst]; rfl) ?_
  refine WDs_nil ⟨(show chkAll _ _ [(3, 10), (7, 10), (9, 10)] from by simp only [go_sem, eRun_exit, Nat.reduceAdd, Nat.reduceLT, Nat.reduceEqDiff, reduceIte, reduceCtorEq, Int.reduceBEq, Int.reduceBNe, Int.reduceLT, Int.reduceLE, Int.reduceGT, Int.reduceGE, Int.reduceEq, Int.reduceAdd, Int.reduceSub, Int.reduceMul, Nat.reduceMul, Nat.reduceSub, Nat.reduceLeDiff, chkAll, chk, List.reverse_cons, List.reverse_nil, mkStp_fe, mkStp_v, mkStp_0, mkStp_1, List.getElem?_nil, false_or, or_true, or_false, exists_eq', Option.some.injEq, Prod.mk.injEq, Bool.true_eq_false, Bool.false_eq_true, and_true, true_and, implies_true,  l0, l1, m0, m1, hkl, a3, m3]), ?_⟩
  -- what there is now
  have g2 : Frm (fun _ => False) (aw.fresh zs) (((aw.fresh zs).fresh zs).turn (aw.fresh zs).next (.cells (wdCells x) .own)) := by
    refine (fresh_frm (S := fun _ => False) _ zs).trans (T := fun b => b = (aw.fresh zs).next) (turn_frm rfl (.inl rfl)) (fun _ _ h => h) ?_
    rintro y hy rfl; omega
  have g3 : (((aw.fresh zs).fresh zs).turn (aw.fresh zs).next (.cells (wdCells x) .own)).heap.get (aw.fresh zs).next = some (.cells (wdCells x) .own) := AE.T.get_put_same
  generalize ((aw.fresh zs).fresh zs).turn (aw.fresh zs).next (.cells (wdCells x) .own) = w3 at g2 g3 ⊢
  have hp3 := hp1.frm g2 fun h => h
  have hwr : IntKind.wrap .i64 (Int.ofNat k + 1) = Int.ofNat (k + 1) := wrap_succ (by have := hw.len; omega)
  have hn1 : ¬ (aw.fresh zs).next = bp := by have := hp1.lt; omega
  have g4 : (PSt.mk' w3 bp (.slice b o ws.length c) (k + 1) 0).heap.get (aw.fresh zs).next = some (.cells (wdCells x) .own) := (AE.T.get_put_ne hn1).trans g3
  have hp4 := PSt.made (wv := .slice b o ws.length c) (k := k + 1) (e := 0) hp3.lt
  have g5 : Frm (fun b => b = bp) (aw.fresh zs) (PSt.mk' w3 bp (.slice b o ws.length c) (k + 1) 0) := g2.trans PSt.made_frm (fun _ _ h => h.elim) (fun _ _ h => h)
  have s1 := hp3.s1 (k + 1)
  have l31 := hp3.l1
  generalize hw4 : PSt.mk' w3 bp (.slice b o ws.length c) (k + 1) 0 = w4 at g4 hp4 g5 s1
  have c0 : w4.load (aw.fresh zs).next 0 1 = some [.int .i64 (Int.ofNat x.kind)] := by simp only [AW.load, g4]; rfl
  have c1 : w4.load (aw.fresh zs).next 1 1 = some [.str x.text] := by simp only [AW.load, g4]; rfl
  have gn0 : w4.heap.get aw.next = some (.cells zs .own) := (g5.heap aw.next (Nat.lt_succ_self _) (fun h => hne h.symm)).trans fresh_get
  -- the end
  have fine : ∀ (w : AW) (k' e' : Nat) (t : Tm), PSt w bp (.slice b o ws.length c) k' e' → Frm (fun b => b = bp) (aw.fresh zs) w → rTerm ws k 0 = (t, k', e') → K (.agg (tmC t)) (w.turn aw.next (.cells (tmC t) .own)) := by
    intro w k' e' t h1 h2 h3
    rw [h3] at h
    exact h _ (h1.frm (S := fun b => b = aw.next) (turn_frm rfl (.inl rfl)) (fun h => hne h)) (out_frm h2)
  by_cases hk1 : x.kind = 1
  · have hr : rTerm ws k 0 = (⟨2, x.text, 0⟩, k + 1, 0) := by
      simp only [rTerm, hnx]
      rw [if_neg h4, if_pos hk1]
    have hst := res_store (vs := [V.int .i64 2, V.str x.text, V.int .i64 0]) gn0 hzl rfl
    have hrl := res_load (w := w4) (b := aw.next) (vs := [V.int .i64 2, V.str x.text, V.int .i64 0]) (n := 3) rfl
    refine WS_run 1000 (by simp only [go_sem, eRun_exit, Nat.reduceAdd, Nat.reduceLT, Nat.reduceEqDiff, reduceIte, reduceCtorEq, Int.reduceBEq, Int.reduceBNe, Int.reduceLT, Int.reduceLE, Int.reduceGT, Int.reduceGE, Int.reduceEq, Int.reduceAdd, Int.reduceSub, Int.reduceMul, Nat.reduceMul, Nat.reduceSub, Nat.reduceLeDiff, k_ref8_P_term_p3, k_ref8_P_term_p2, l31, hwr, s1, c0, c1, hk1, evParts, fillV, over, hst, List.length_cons, List.length_nil]; rfl) ?_
    refine WS_ret ⟨_, by simp only [go_sem, eRun_exit, Nat.reduceAdd, Nat.reduceLT, Nat.reduceEqDiff, reduceIte, reduceCtorEq, Int.reduceBEq, Int.reduceBNe, Int.reduceLT, Int.reduceLE, Int.reduceGT, Int.reduceGE, Int.reduceEq, Int.reduceAdd, Int.reduceSub, Int.reduceMul, Nat.reduceMul, Nat.reduceSub, Nat.reduceLeDiff, k_ref8_P_term, hrl]; rfl, ?_⟩
    exact fine w4 _ _ _ hp4 g5 hr
  by_cases hk2 : x.kind = 2
  · have hr : rTerm ws k 0 = (⟨1, x.text, 0⟩, k + 1, 0) := by
      simp only [rTerm, hnx]
      rw [if_neg h4, if_neg hk1, if_pos hk2]
    have hst := res_store (vs := [V.int .i64 1, V.str x.text, V.int .i64 0]) gn0 hzl rfl
    have hrl := res_load (w := w4) (b := aw.next) (vs := [V.int .i64 1, V.str x.text, V.int .i64 0]) (n := 3) rfl
    refine WS_run 1000 (by simp only [go_sem, eRun_exit, Nat.reduceAdd, Nat.reduceLT, Nat.reduceEqDiff, reduceIte, reduceCtorEq, Int.reduceBEq, Int.reduceBNe, Int.reduceLT, Int.reduceLE, Int.reduceGT, Int.reduceGE, Int.reduceEq, Int.reduceAdd, Int.reduceSub, Int.reduceMul, Nat.reduceMul, Nat.reduceSub, Nat.reduceLeDiff, k_ref8_P_term_p3, k_ref8_P_term_p1, l31, hwr, s1, c0, c1, hk1, hk2, evParts, fillV, over, hst, List.length_cons, List.length_nil]; rfl) ?_
    refine WS_ret ⟨_, by simp only [go_sem, eRun_exit, Nat.reduceAdd, Nat.reduceLT, Nat.reduceEqDiff, reduceIte, reduceCtorEq, Int.reduceBEq, Int.reduceBNe, Int.reduceLT, Int.reduceLE, Int.reduceGT, Int.reduceGE, Int.reduceEq, Int.reduceAdd, Int.reduceSub, Int.reduceMul, Nat.reduceMul, Nat.reduceSub, Nat.reduceLeDiff, k_ref8_P_term, hrl]; rfl, ?_⟩
    exact fine w4 _ _ _ hp4 g5 hr
  -- a number
  have hlen := x2 h4
  refine WS_run 1000 (by simp only [go_sem, eRun_exit, Nat.reduceAdd, Nat.reduceLT, Nat.reduceEqDiff, reduceIte, reduceCtorEq, Int.reduceBEq, Int.reduceBNe, Int.reduceLT, Int.reduceLE, Int.reduceGT, Int.reduceGE, Int.reduceEq, Int.reduceAdd, Int.reduceSub, Int.reduceMul, Nat.reduceMul, Nat.reduceSub, Nat.reduceLeDiff, k_ref8_P_term_p3, l31, hwr, s1, c0, c1, hk1, hk2, List.length_cons, List.length_nil]; rfl) ?_
  refine WS_loop (NumI aw.next (aw.fresh zs).next bp x.text w4) ?_ x.text.length ⟨0, 0, (by simp only [go_sem, eRun_exit, Nat.reduceAdd, Nat.reduceLT, Nat.reduceEqDiff, reduceIte, reduceCtorEq, Int.reduceBEq, Int.reduceBNe, Int.reduceLT, Int.reduceLE, Int.reduceGT, Int.reduceGE, Int.reduceEq, Int.reduceAdd, Int.reduceSub, Int.reduceMul, Nat.reduceMul, Nat.reduceSub, Nat.reduceLeDiff] <;> rfl), (by simp only [go_sem, eRun_exit, Nat.reduceAdd, Nat.reduceLT, Nat.reduceEqDiff, reduceIte, reduceCtorEq, Int.reduceBEq, Int.reduceBNe, Int.reduceLT, Int.reduceLE, Int.reduceGT, Int.reduceGE, Int.reduceEq, Int.reduceAdd, Int.reduceSub, Int.reduceMul, Nat.reduceMul, Nat.reduceSub, Nat.reduceLeDiff] <;> rfl), (by simp only [go_sem, eRun_exit, Nat.reduceAdd, Nat.reduceLT, Nat.reduceEqDiff, reduceIte, reduceCtorEq, Int.reduceBEq, Int.reduceBNe, Int.reduceLT, Int.reduceLE, Int.reduceGT, Int.reduceGE, Int.reduceEq, Int.reduceAdd, Int.reduceSub, Int.reduceMul, Nat.reduceMul, Nat.reduceSub, Nat.reduceLeDiff] <;> rfl), (by simp only [go_sem, eRun_exit, Nat.reduceAdd, Nat.reduceLT, Nat.reduceEqDiff, reduceIte, reduceCtorEq, Int.reduceBEq, Int.reduceBNe, Int.reduceLT, Int.reduceLE, Int.reduceGT, Int.reduceGE, Int.reduceEq, Int.reduceAdd, Int.reduceSub, Int.reduceMul, Nat.reduceMul, Nat.reduceSub, Nat.reduceLeDiff] <;> rfl), (by simp only [go_sem, eRun_exit, Nat.reduceAdd, Nat.reduceLT, Nat.reduceEqDiff, reduceIte, reduceCtorEq, Int.reduceBEq, Int.reduceBNe, Int.reduceLT, Int.reduceLE, Int.reduceGT, Int.reduceGE, Int.reduceEq, Int.reduceAdd, Int.reduceSub, Int.reduceMul, Nat.reduceMul, Nat.reduceSub, Nat.reduceLeDiff] <;> rfl), rfl, by omega, rfl, by simp, by omega⟩
  rintro q f w ⟨i, m, f0, f2, f3, f4, f5, rfl, hi, hm, hb, rfl⟩ ih
  by_cases hil : i < x.text.length
  · obtain ⟨ch, hch⟩ : ∃ ch, x.text[i]? = some ch := ⟨_, List.getElem?_eq_getElem hil⟩
    have hc256 : ch < 256 := x5 ch (List.mem_of_getElem? hch)
    have hwi : IntKind.wrap .i64 (Int.ofNat i + 1) = Int.ofNat (i + 1) := wrap_succ (by omega)
    have hd : x.text.drop i = ch :: x.text.drop (i + 1) := by
      rw [List.drop_eq_getElem_cons hil]; rw [List.getElem?_eq_getElem hil] at hch; rw [Option.some.inj hch]
    rw [hd, List.foldl_cons] at hm
    have hpow : 29 * 10 ^ (i + 1) ≤ 290000000000000000 := by
      have : 10 ^ (i + 1) ≤ 10 ^ 16 := Nat.pow_le_pow_right (by omega) (by omega)
      omega
    have hp10 : 10 ^ (i + 1) = 10 ^ i * 10 := Nat.pow_succ ..
    by_cases h45 : ch = 45
    · rw [show rDig m ch = m from if_pos h45] at hm
      refine WS_run 1000 (by simp only [go_sem, eRun_exit, Nat.reduceAdd, Nat.reduceLT, Nat.reduceEqDiff, reduceIte, reduceCtorEq, Int.reduceBEq, Int.reduceBNe, Int.reduceLT, Int.reduceLE, Int.reduceGT, Int.reduceGE, Int.reduceEq, Int.reduceAdd, Int.reduceSub, Int.reduceMul, Nat.reduceMul, Nat.reduceSub, Nat.reduceLeDiff, k_ref8_P_term_p6, k_ref8_P_term_p5, f0, f2, f3, f4, f5, c1, hil, hch, h45, hwi]; rfl) ?_
      exact ih (x.text.length - (i + 1)) _ _ (by omega) ⟨i + 1, m, (by simp only [go_sem, eRun_exit, Nat.reduceAdd, Nat.reduceLT, Nat.reduceEqDiff, reduceIte, reduceCtorEq, Int.reduceBEq, Int.reduceBNe, Int.reduceLT, Int.reduceLE, Int.reduceGT, Int.reduceGE, Int.reduceEq, Int.reduceAdd, Int.reduceSub, Int.reduceMul, Nat.reduceMul, Nat.reduceSub, Nat.reduceLeDiff, f0] <;> rfl), (by simp only [go_sem, eRun_exit, Nat.reduceAdd, Nat.reduceLT, Nat.reduceEqDiff, reduceIte, reduceCtorEq, Int.reduceBEq, Int.reduceBNe, Int.reduceLT, Int.reduceLE, Int.reduceGT, Int.reduceGE, Int.reduceEq, Int.reduceAdd, Int.reduceSub, Int.reduceMul, Nat.reduceMul, Nat.reduceSub, Nat.reduceLeDiff, f2] <;> rfl), (by simp only [go_sem, eRun_exit, Nat.reduceAdd, Nat.reduceLT, Nat.reduceEqDiff, reduceIte, reduceCtorEq, Int.reduceBEq, Int.reduceBNe, Int.reduceLT, Int.reduceLE, Int.reduceGT, Int.reduceGE, Int.reduceEq, Int.reduceAdd, Int.reduceSub, Int.reduceMul, Nat.reduceMul, Nat.reduceSub, Nat.reduceLeDiff, f3] <;> rfl), (by simp only [go_sem, eRun_exit, Nat.reduceAdd, Nat.reduceLT, Nat.reduceEqDiff, reduceIte, reduceCtorEq, Int.reduceBEq, Int.reduceBNe, Int.reduceLT, Int.reduceLE, Int.reduceGT, Int.reduceGE, Int.reduceEq, Int.reduceAdd, Int.reduceSub, Int.reduceMul, Nat.reduceMul, Nat.reduceSub, Nat.reduceLeDiff, f4] <;> rfl), (by simp only [go_sem, eRun_exit, Nat.reduceAdd, Nat.reduceLT, Nat.reduceEqDiff, reduceIte, reduceCtorEq, Int.reduceBEq, Int.reduceBNe, Int.reduceLT, Int.reduceLE, Int.reduceGT, Int.reduceGE, Int.reduceEq, Int.reduceAdd, Int.reduceSub, Int.reduceMul, Nat.reduceMul, Nat.reduceSub, Nat.reduceLeDiff] <;> rfl), rfl, by omega, hm, by omega, rfl⟩
    · rw [show rDig m ch = m * 10 + (ch + 208) % 256 from if_neg h45] at hm
      have e1 := u8sub hc256
      have e2 : IntKind.wrap .i64 (Int.ofNat ((ch + 208) % 256)) = Int.ofNat ((ch + 208) % 256) := i64_small (by omega)
      have e3 : IntKind.wrap .i64 (Int.ofNat m * 10) = Int.ofNat (m * 10) := by
        have : Int.ofNat m * 10 = Int.ofNat (m * 10) := by simp
        rw [this]; exact i64_small (by omega)
      have e4 : IntKind.wrap .i64 (Int.ofNat (m * 10) + Int.ofNat ((ch + 208) % 256)) = Int.ofNat (m * 10 + (ch + 208) % 256) := wrap_add (by omega)
      refine WS_run 1000 (by simp only [go_sem, eRun_exit, Nat.reduceAdd, Nat.reduceLT, Nat.reduceEqDiff, reduceIte, reduceCtorEq, Int.reduceBEq, Int.reduceBNe, Int.reduceLT, Int.reduceLE, Int.reduceGT, Int.reduceGE, Int.reduceEq, Int.reduceAdd, Int.reduceSub, Int.reduceMul, Nat.reduceMul, Nat.reduceSub, Nat.reduceLeDiff, k_ref8_P_term_p6, k_ref8_P_term_p5, k_ref8_P_term_p4, f0, f2, f3, f4, f5, c1, hil, hch, h45, hwi, e1, e2, e3, e4]; rfl) ?_
      exact ih (x.text.length - (i + 1)) _ _ (by omega) ⟨i + 1, _, (by simp only [go_sem, eRun_exit, Nat.reduceAdd, Nat.reduceLT, Nat.reduceEqDiff, reduceIte, reduceCtorEq, Int.reduceBEq, Int.reduceBNe, Int.reduceLT, Int.reduceLE, Int.reduceGT, Int.reduceGE, Int.reduceEq, Int.reduceAdd, Int.reduceSub, Int.reduceMul, Nat.reduceMul, Nat.reduceSub, Nat.reduceLeDiff, f0] <;> rfl), (by simp only [go_sem, eRun_exit, Nat.reduceAdd, Nat.reduceLT, Nat.reduceEqDiff, reduceIte, reduceCtorEq, Int.reduceBEq, Int.reduceBNe, Int.reduceLT, Int.reduceLE, Int.reduceGT, Int.reduceGE, Int.reduceEq, Int.reduceAdd, Int.reduceSub, Int.reduceMul, Nat.reduceMul, Nat.reduceSub, Nat.reduceLeDiff, f2] <;> rfl), (by simp only [go_sem, eRun_exit, Nat.reduceAdd, Nat.reduceLT, Nat.reduceEqDiff, reduceIte, reduceCtorEq, Int.reduceBEq, Int.reduceBNe, Int.reduceLT, Int.reduceLE, Int.reduceGT, Int.reduceGE, Int.reduceEq, Int.reduceAdd, Int.reduceSub, Int.reduceMul, Nat.reduceMul, Nat.reduceSub, Nat.reduceLeDiff, f3] <;> rfl), (by simp only [go_sem, eRun_exit, Nat.reduceAdd, Nat.reduceLT, Nat.reduceEqDiff, reduceIte, reduceCtorEq, Int.reduceBEq, Int.reduceBNe, Int.reduceLT, Int.reduceLE, Int.reduceGT, Int.reduceGE, Int.reduceEq, Int.reduceAdd, Int.reduceSub, Int.reduceMul, Nat.reduceMul, Nat.reduceSub, Nat.reduceLeDiff] <;> rfl), (by simp only [go_sem, eRun_exit, Nat.reduceAdd, Nat.reduceLT, Nat.reduceEqDiff, reduceIte, reduceCtorEq, Int.reduceBEq, Int.reduceBNe, Int.reduceLT, Int.reduceLE, Int.reduceGT, Int.reduceGE, Int.reduceEq, Int.reduceAdd, Int.reduceSub, Int.reduceMul, Nat.reduceMul, Nat.reduceSub, Nat.reduceLeDiff] <;> rfl), rfl, by omega, hm, by omega, rfl⟩
  · rw [List.drop_eq_nil_of_le (by omega : x.text.length ≤ i)] at hm
    have hm : rNum x.text = m := hm
    by_cases hbig : 2147483648 < m
    · have hr : rTerm ws k 0 = (Tm.zero, k + 1, 4) := by
        simp only [rTerm, hnx]
        rw [if_neg h4, if_neg hk1, if_neg hk2, if_pos (by omega)]
      refine WS_run 1000 (by simp only [go_sem, eRun_exit, Nat.reduceAdd, Nat.reduceLT, Nat.reduceEqDiff, reduceIte, reduceCtorEq, Int.reduceBEq, Int.reduceBNe, Int.reduceLT, Int.reduceLE, Int.reduceGT, Int.reduceGE, Int.reduceEq, Int.reduceAdd, Int.reduceSub, Int.reduceMul, Nat.reduceMul, Nat.reduceSub, Nat.reduceLeDiff, k_ref8_P_term_p6, k_ref8_P_term_p7, f0, f2, f3, f4, f5, c1, hil, hbig]; rfl) ?_
      refine WS_call (by simp only [go_sem, eRun_exit, Nat.reduceAdd, Nat.reduceLT, Nat.reduceEqDiff, reduceIte, reduceCtorEq, Int.reduceBEq, Int.reduceBNe, Int.reduceLT, Int.reduceLE, Int.reduceGT, Int.reduceGE, Int.reduceEq, Int.reduceAdd, Int.reduceSub, Int.reduceMul, Nat.reduceMul, Nat.reduceSub, Nat.reduceLeDiff]) (by simp only [go_sem, eRun_exit, Nat.reduceAdd, Nat.reduceLT, Nat.reduceEqDiff, reduceIte, reduceCtorEq, Int.reduceBEq, Int.reduceBNe, Int.reduceLT, Int.reduceLE, Int.reduceGT, Int.reduceGE, Int.reduceEq, Int.reduceAdd, Int.reduceSub, Int.reduceMul, Nat.reduceMul, Nat.reduceSub, Nat.reduceLeDiff]; rfl) ?_
      refine bad_ok C (x := 4) hp4 fun w5 q1 q2 q3 => ?_
      have gn5 : w5.heap.get aw.next = some (.cells zs .own) := (q2.heap aw.next (Nat.lt_of_lt_of_le (Nat.lt_succ_self _) g5.next) (fun h => hne h.symm)).trans gn0
      have hst := res_store (vs := [V.int .i64 0, V.str [], V.int .i64 0]) gn5 hzl rfl
      have hrl := res_load (w := w5) (b := aw.next) (vs := [V.int .i64 0, V.str [], V.int .i64 0]) (n := 3) rfl
      refine WS_run 1000 (by simp only [go_sem, eRun_exit, Nat.reduceAdd, Nat.reduceLT, Nat.reduceEqDiff, reduceIte, reduceCtorEq, Int.reduceBEq, Int.reduceBNe, Int.reduceLT, Int.reduceLE, Int.reduceGT, Int.reduceGE, Int.reduceEq, Int.reduceAdd, Int.reduceSub, Int.reduceMul, Nat.reduceMul, Nat.reduceSub, Nat.reduceLeDiff, f0, f2, evParts, fillV, over, hst, List.length_cons, List.length_nil]; rfl) ?_
      refine WS_ret ⟨_, by simp only [go_sem, eRun_exit, Nat.reduceAdd, Nat.reduceLT, Nat.reduceEqDiff, reduceIte, reduceCtorEq, Int.reduceBEq, Int.reduceBNe, Int.reduceLT, Int.reduceLE, Int.reduceGT, Int.reduceGE, Int.reduceEq, Int.reduceAdd, Int.reduceSub, Int.reduceMul, Nat.reduceMul, Nat.reduceSub, Nat.reduceLeDiff, k_ref8_P_term, f2, hrl]; rfl, ?_⟩
      exact fine w5 _ _ _ q1 (g5.trans q2 (fun _ _ h => h) (fun _ _ h => h)) hr
    · obtain ⟨c0', t', hct⟩ : ∃ c t, x.text = c :: t := by
        cases hh : x.text with
        | nil => exact absurd hh x1
        | cons c t => exact ⟨c, t, rfl⟩
      have hl0 : 0 < x.text.length := by rw [hct]; simp
      have hch0 : x.text[0]? = some c0' := by rw [hct]; rfl
      by_cases h45 : c0' = 45
      · have hr : rTerm ws k 0 = (⟨3, [], -(m : Int)⟩, k + 1, 0) := by
          simp only [rTerm, hnx]
          rw [if_neg h4, if_neg hk1, if_neg hk2, if_neg (by omega), hct, hm.symm, hct]
          simp [h45]
        have e5 : IntKind.wrap .i64 (0 - Int.ofNat m) = -(m : Int) := by
          have : (0 : Int) - Int.ofNat m = -(m : Int) := by simp
          rw [this]; exact wrap_id (by omega) (by omega)
        have hst := res_store (vs := [V.int .i64 3, V.str [], V.int .i64 (-(m : Int))]) gn0 hzl rfl
        have hrl := res_load (w := w) (b := aw.next) (vs := [V.int .i64 3, V.str [], V.int .i64 (-(m : Int))]) (n := 3) rfl
        refine WS_run 1000 (by simp only [go_sem, eRun_exit, Nat.reduceAdd, Nat.reduceLT, Nat.reduceEqDiff, reduceIte, reduceCtorEq, Int.reduceBEq, Int.reduceBNe, Int.reduceLT, Int.reduceLE, Int.reduceGT, Int.reduceGE, Int.reduceEq, Int.reduceAdd, Int.reduceSub, Int.reduceMul, Nat.reduceMul, Nat.reduceSub, Nat.reduceLeDiff, k_ref8_P_term_p6, f0, f2, f3, f4, f5, c1, hil, hbig, hl0, hch0, h45, e5, evParts, fillV, hov, over, hst, List.length_cons, List.length_nil]; rfl) ?_
        refine WS_ret ⟨_, by simp only [go_sem, eRun_exit, Nat.reduceAdd, Nat.reduceLT, Nat.reduceEqDiff, reduceIte, reduceCtorEq, Int.reduceBEq, Int.reduceBNe, Int.reduceLT, Int.reduceLE, Int.reduceGT, Int.reduceGE, Int.reduceEq, Int.reduceAdd, Int.reduceSub, Int.reduceMul, Nat.reduceMul, Nat.reduceSub, Nat.reduceLeDiff, k_ref8_P_term, f2, hrl]; rfl, ?_⟩
        exact fine w _ _ _ hp4 g5 hr
      · have hr : rTerm ws k 0 = (⟨3, [], (m : Int)⟩, k + 1, 0) := by
          simp only [rTerm, hnx]
          rw [if_neg h4, if_neg hk1, if_neg hk2, if_neg (by omega), hct, hm.symm, hct]
          simp [h45]
        have hst := res_store (vs := [V.int .i64 3, V.str [], V.int .i64 (Int.ofNat m)]) gn0 hzl rfl
        have hrl := res_load (w := w) (b := aw.next) (vs := [V.int .i64 3, V.str [], V.int .i64 (Int.ofNat m)]) (n := 3) rfl
        refine WS_run 1000 (by simp only [go_sem, eRun_exit, Nat.reduceAdd, Nat.reduceLT, Nat.reduceEqDiff, reduceIte, reduceCtorEq, Int.reduceBEq, Int.reduceBNe, Int.reduceLT, Int.reduceLE, Int.reduceGT, Int.reduceGE, Int.reduceEq, Int.reduceAdd, Int.reduceSub, Int.reduceMul, Nat.reduceMul, Nat.reduceSub, Nat.reduceLeDiff, k_ref8_P_term_p6, f0, f2, f3, f4, f5, c1, hil, hbig, hl0, hch0, h45, evParts, fillV, hov, over, hst, List.length_cons, List.length_nil]; rfl) ?_
        refine WS_ret ⟨_, by simp only [go_sem, eRun_exit, Nat.reduceAdd, Nat.reduceLT, Nat.reduceEqDiff, reduceIte, reduceCtorEq, Int.reduceBEq, Int.reduceBNe, Int.reduceLT, Int.reduceLE, Int.reduceGT, Int.reduceGE, Int.reduceEq, Int.reduceAdd, Int.reduceSub, Int.reduceMul, Nat.reduceMul, Nat.reduceSub, Nat.reduceLeDiff, k_ref8_P_term, f2, hrl]; rfl, ?_⟩
        exact fine w _ _ _ hp4 g5 hr
end Go.Proofs.Ytjidefnbancmfaa

/- The reference's parser: atoms. -/
set_option linter.unusedVariables false
set_option maxRecDepth 10000
set_option linter.unusedSimpArgs false
namespace Go.Proofs.Ytjidefnbancmfaa
open Go.AE Delphi
variable {tab : Tab}
theorem PSt.cb {w : AW} {bp k e : Nat} {wv : V} (h : PSt w bp wv k e) : CB w bp [wv, .int .i64 (Int.ofNat k), .int .i64 (Int.ofNat e)] := ⟨h.lt, h.get⟩
def tmsC (l : List Tm) : List V := l.flatMap tmC
theorem tmsC_snoc (l : List Tm) (t : Tm) : tmsC (l ++ [t]) = tmsC l ++ tmC t := by simp [tmsC]
/-- an atom that is being read. -/
structure AS (Tw : Nat → Prop) (aw w : AW) (bp : Nat) (wv : V) (txt : List Nat) (args : List Tm) (k e : Nat) (av : V) (S : Nat → Prop) : Prop where
  p : PSt w bp wv k e
  frm : Frm (fun b => b = bp) aw w
  res : CB w aw.next [.int .i64 0, .str [], .nilslice]
  lit : CB w (aw.next + 1) [.int .i64 1, .str txt, av]
  buf : Buf S w av 3 args.length (tmsC args)
  sep : ∀ x, S x → aw.next + 1 < x ∧ x < w.next
structure AF (f : Fr) (bp n0 n1 : Nat) : Prop where
  f0 : f.get 0 = some (.ptr bp 0)
  f2 : f.get 2 = some (.ptr n0 0)
  f3 : f.get 3 = some (.ptr n1 0)
def ArgI (Tw : Nat → Prop) (aw : AW) (bp : Nat) (wv : V) (ws : List Wd) (txt : List Nat) (fin : List Tm × Nat × Nat) (q : Nat) (f : Fr) (w : AW) : Prop :=
  ∃ args k e av S, AF f bp aw.next (aw.next + 1) ∧ AS Tw aw w bp wv txt args k e av S ∧ args.length ≤ 5 ∧ k ≤ ws.length ∧ ws.length + 1 ≤ q + k ∧ rArgs ws q args k e = fin ∧ (e = 0 → args.length ≤ 4)
def ArgJ (Tw : Nat → Prop) (aw : AW) (bp : Nat) (wv : V) (txt : List Nat) (fin : List Tm × Nat × Nat) (f : Fr) (w : AW) : Prop :=
  ∃ av S, AF f bp aw.next (aw.next + 1) ∧ AS Tw aw w bp wv txt fin.1 fin.2.1 fin.2.2 av S
theorem tmC_len (t : Tm) : (tmC t).length = 3 := rfl
theorem rArgs_stop {ws : List Wd} {q : Nat} {args : List Tm} {k e : Nat} (h : e ≠ 0) : rArgs ws q args k e = (args, k, e) := by
  cases q with
  | zero => rfl
  | succ q => simp only [rArgs, if_neg h]
/-- one more term. -/
theorem arg_step (C : Codes tab) {Tw : Nat → Prop} {aw w : AW} {bp : Nat} {wv : V} {ws : List Wd} {txt : List Nat} {fin : List Tm × Nat × Nat} {q : Nat} {f : Fr} {s : List SI} {Q : Fr → AW → Prop} (hw : Wds Tw aw bp wv ws) (hok : ∀ x ∈ ws, WOk x) (hT : ∀ x, Tw x → x < aw.next) (hlt : bp < aw.next)
    (hI : ArgI Tw aw bp wv ws txt fin q f w) (ih : ∀ n' f' w', n' < q → ArgI Tw aw bp wv ws txt fin n' f' w' → WS tab (.code (.loop k_ref8_P_atom_p2) :: .endB 0 :: s) f' w' Q)
    (out : ∀ s' f' w', ArgJ Tw aw bp wv txt fin f' w' → popTo 0 s' = some s → WS tab (.code (.exit 0) :: s') f' w' Q) : WS tab (.code k_ref8_P_atom_p2 :: .code (.loop k_ref8_P_atom_p2) :: .endB 0 :: s) f w Q := by
  obtain ⟨args, k, e, av, S, ⟨f0, f2, f3⟩, hA, hl5, hk, hq, hfin, hl4⟩ := hI
  have p2 := hA.p.l2
  by_cases he : e = 0
  case neg =>
    rw [rArgs_stop he] at hfin
    refine WS_runB 1000 (by simp only [go_sem, Nat.reduceAdd, Nat.reduceLT, Nat.reduceEqDiff, reduceIte, reduceCtorEq, Int.reduceBEq, Int.reduceBNe, Int.reduceLT, Int.reduceLE, Int.reduceGT, Int.reduceGE, Int.reduceEq, Int.reduceAdd, Int.reduceSub, Int.reduceMul, Nat.reduceMul, Nat.reduceSub, Nat.reduceLeDiff, k_ref8_P_atom_p2, f0, f2, f3, p2, he]; rfl) ?_
    exact out _ _ _ ⟨av, S, ⟨(by simp only [go_sem, eRun_exit, Nat.reduceAdd, Nat.reduceLT, Nat.reduceEqDiff, reduceIte, reduceCtorEq, Int.reduceBEq, Int.reduceBNe, Int.reduceLT, Int.reduceLE, Int.reduceGT, Int.reduceGE, Int.reduceEq, Int.reduceAdd, Int.reduceSub, Int.reduceMul, Nat.reduceMul, Nat.reduceSub, Nat.reduceLeDiff, f0] <;> rfl), (by simp only [go_sem, eRun_exit, Nat.reduceAdd, Nat.reduceLT, Nat.reduceEqDiff, reduceIte, reduceCtorEq, Int.reduceBEq, Int.reduceBNe, Int.reduceLT, Int.reduceLE, Int.reduceGT, Int.reduceGE, Int.reduceEq, Int.reduceAdd, Int.reduceSub, Int.reduceMul, Nat.reduceMul, Nat.reduceSub, Nat.reduceLeDiff, f2] <;> rfl), (by simp only [go_sem, eRun_exit, Nat.reduceAdd, Nat.reduceLT, Nat.reduceEqDiff, reduceIte, reduceCtorEq, Int.reduceBEq, Int.reduceBNe, Int.reduceLT, Int.reduceLE, Int.reduceGT, Int.reduceGE, Int.reduceEq, Int.reduceAdd, Int.reduceSub, Int.reduceMul, Nat.reduceMul, Nat.reduceSub, Nat.reduceLeDiff, f3] <;> rfl)⟩, by rw [← hfin]; exact hA⟩ rfl
  subst he
  have hl4 := hl4 rfl
  obtain ⟨q, rfl⟩ : ∃ q', q = q' + 1 := ⟨q - 1, by omega⟩
  refine WS_run 1000 (by simp only [go_sem, eRun_exit, Nat.reduceAdd, Nat.reduceLT, Nat.reduceEqDiff, reduceIte, reduceCtorEq, Int.reduceBEq, Int.reduceBNe, Int.reduceLT, Int.reduceLE, Int.reduceGT, Int.reduceGE, Int.reduceEq, Int.reduceAdd, Int.reduceSub, Int.reduceMul, Nat.reduceMul, Nat.reduceSub, Nat.reduceLeDiff, k_ref8_P_atom_p2, k_ref8_P_atom_p1, f0, f2, f3, p2]; rfl) ?_
  refine WS_call (by simp only [go_sem, eRun_exit, Nat.reduceAdd, Nat.reduceLT, Nat.reduceEqDiff, reduceIte, reduceCtorEq, Int.reduceBEq, Int.reduceBNe, Int.reduceLT, Int.reduceLE, Int.reduceGT, Int.reduceGE, Int.reduceEq, Int.reduceAdd, Int.reduceSub, Int.reduceMul, Nat.reduceMul, Nat.reduceSub, Nat.reduceLeDiff]) (by simp only [go_sem, eRun_exit, Nat.reduceAdd, Nat.reduceLT, Nat.reduceEqDiff, reduceIte, reduceCtorEq, Int.reduceBEq, Int.reduceBNe, Int.reduceLT, Int.reduceLE, Int.reduceGT, Int.reduceGE, Int.reduceEq, Int.reduceAdd, Int.reduceSub, Int.reduceMul, Nat.reduceMul, Nat.reduceSub, Nat.reduceLeDiff]; rfl) ?_
  have hww : Wds Tw w bp wv ws := hw.frm hA.frm fun x hx he => hw.no (he ▸ hx)
  refine pterm_ok C hA.p hww hok (fun x hx => Nat.lt_of_lt_of_le (hT x hx) hA.frm.next) fun w1 q1 q2 => ?_
  simp only [rArgs, if_true] at hfin
  have hk1 := rTerm_le (e := 0) hk
  have hk1g := rTerm_ge ws k 0
  generalize hrt : rTerm ws k 0 = rt at hfin q1 hk1 hk1g
  obtain ⟨t, k1, e1⟩ := rt
  simp only at hfin q1 hk1 hk1g
  -- the term in a block of its own
  obtain ⟨w2, s2, c2, r2, n2⟩ := boxed w1 (zs := [V.int .i64 0, V.str [], V.int .i64 0]) (vs := tmC t) rfl rfl
  have nx := hA.frm.next
  have nx1 := q2.next
  have hn0 : ¬ aw.next = bp := by omega
  have hn1 : ¬ aw.next + 1 = bp := by omega
  have p2' := q1.frm r2 fun h => h
  have lit2 := (hA.lit.frm q2 hn1).frm r2 fun h => h
  have res2 := (hA.res.frm q2 hn0).frm r2 fun h => h
  have buf2 := (hA.buf.frm q2 fun x hx he => by have := (hA.sep x hx).1; omega).frm r2 fun _ _ h => h
  have l2 := p2'.l2
  have la : w2.load (aw.next + 1) 2 1 = some [av] := by rw [lit2.load]; rfl
  have lt : w2.load w1.next 0 3 = some (tmC t) := c2.all rfl
  have hlv := buf2.lenV
  have f02 : Frm (fun b => b = bp) aw w2 := hA.frm.tr (q2.tr r2.no)
  -- what is left, once the error is told
  obtain ⟨e2, he2⟩ : ∃ e2, e2 = if e1 = 0 ∧ args.length = 4 then 8 else e1 := ⟨_, rfl⟩
  rw [← he2] at hfin
  have hsz : S = S := rfl
  have cont : ∀ w3, PSt w3 bp wv k1 e2 → Frm (fun b => b = bp) w2 w3 → w3.next = w2.next →
      ∃ v' w5 S5, v'.cells = [v'] ∧ (w3.load (aw.next + 1) 2 1 = some [av]) ∧ w3.load w1.next 0 3 = some (tmC t) ∧ (w3.fresh (tmC t)).appendV 3 32 av 1 (tmC t) = some (v', w5) ∧ (w3.fresh (tmC t)).elems 3 (.slice w3.next 0 1 (.known 1)) = some (1, tmC t) ∧
        w5.store (aw.next + 1) 2 [v'] = some (w5.put (aw.next + 1) [.int .i64 1, .str txt, v']) ∧ AS Tw aw (w5.put (aw.next + 1) [.int .i64 1, .str txt, v']) bp wv txt (args ++ [t]) k1 e2 v' S5 := by
    intro w3 g1 g2 g3
    have buf3 := buf2.frm g2 fun x hx he => by have := (hA.sep x hx).1; omega
    have lit3 := lit2.frm g2 hn1
    have res3 := res2.frm g2 hn0
    have c3 := c2.frm g2 (by show ¬ w1.next = bp; omega)
    have hS3 : ∀ b, S b → b < w3.next := fun b hb => by have := (hA.sep b hb).2; omega
    obtain ⟨v', w5, S5, a1, a2, a3, a4⟩ := buf3.push (news := tmC t) (bytes := 32) hS3 (by omega) rfl rfl (by omega) (by omega)
    have nlit : ¬ S (aw.next + 1) := fun h => by have := (hA.sep _ h).1; omega
    have nres : ¬ S aw.next := fun h => by have := (hA.sep _ h).1; omega
    have nbp : ¬ S bp := fun h => by have := (hA.sep _ h).1; omega
    have lit5 := lit3.frm a3 nlit
    have vone : v'.one = true := by rcases a2.inv with ⟨rfl, _⟩ | ⟨_, rfl, _⟩ <;> rfl
    have vc : v'.cells = [v'] := by rcases a2.inv with ⟨rfl, _⟩ | ⟨_, rfl, _⟩ <;> rfl
    have pf : Frm (fun b => b = aw.next + 1) w5 (w5.put (aw.next + 1) [.int .i64 1, .str txt, v']) := put_frm
    have sep5 : ∀ x, S5 x → aw.next + 1 < x ∧ x < w5.next := by
      intro x hx
      obtain ⟨m1, m2⟩ := a4 x hx
      refine ⟨?_, m1⟩
      rcases m2 with m2 | m2
      · exact (hA.sep x m2).1
      · have := hA.lit.lt; have := g2.next; omega
    have n5 := a3.next
    refine ⟨v', w5, S5, vc, by rw [lit3.load]; rfl, c3.all rfl, a1, elems_fresh (by omega) rfl, lit5.set (by simp) vone, ?_⟩
    refine ⟨((g1.frm a3 nbp).frm pf (fun h => hn1 h.symm)), ?_, (res3.frm a3 nres).frm pf (by show ¬ aw.next = aw.next + 1; omega), put_cb lit5.lt, ?_, fun x hx => sep5 x hx⟩
    · refine ((f02.tr g2).trans a3 (fun _ _ h => h) fun x hx h => ?_).out (by omega) rfl
      have := (hA.sep x h).1; omega
    · rw [List.length_append, tmsC_snoc]
      exact a2.frm pf fun x hx he => by have := (sep5 x hx).1; omega
  have hl5' : (args ++ [t]).length ≤ 5 := by rw [List.length_append, List.length_singleton]; omega
  have nx2 := r2.next
  have tl : (tmC t).length = 3 := rfl
  have hov : over [V.int .i64 0, V.str [], V.int .i64 0] 0 (tmC t) = some (tmC t) := rfl
  have hfin' : (if rSign ws k1 [44] = true then rArgs ws q (args ++ [t]) (k1 + 1) e2 else (args ++ [t], k1, e2)) = fin := hfin
  by_cases h4 : e1 = 0 ∧ args.length = 4
  · obtain ⟨rfl, h4⟩ := h4
    rw [h4] at hlv
    rw [if_pos ⟨rfl, h4⟩] at he2
    subst he2
    refine WS_run 1000 (by simp only [go_sem, eRun_exit, Nat.reduceAdd, Nat.reduceLT, Nat.reduceEqDiff, reduceIte, reduceCtorEq, Int.reduceBEq, Int.reduceBNe, Int.reduceLT, Int.reduceLE, Int.reduceGT, Int.reduceGE, Int.reduceEq, Int.reduceAdd, Int.reduceSub, Int.reduceMul, Nat.reduceMul, Nat.reduceSub, Nat.reduceLeDiff, s2, tmC_len, l2, la, hlv, f0, f2, f3]; rfl) ?_
    refine WS_call (by simp only [go_sem, eRun_exit, Nat.reduceAdd, Nat.reduceLT, Nat.reduceEqDiff, reduceIte, reduceCtorEq, Int.reduceBEq, Int.reduceBNe, Int.reduceLT, Int.reduceLE, Int.reduceGT, Int.reduceGE, Int.reduceEq, Int.reduceAdd, Int.reduceSub, Int.reduceMul, Nat.reduceMul, Nat.reduceSub, Nat.reduceLeDiff]) (by simp only [go_sem, eRun_exit, Nat.reduceAdd, Nat.reduceLT, Nat.reduceEqDiff, reduceIte, reduceCtorEq, Int.reduceBEq, Int.reduceBNe, Int.reduceLT, Int.reduceLE, Int.reduceGT, Int.reduceGE, Int.reduceEq, Int.reduceAdd, Int.reduceSub, Int.reduceMul, Nat.reduceMul, Nat.reduceSub, Nat.reduceLeDiff]; rfl) ?_
    refine bad_ok C (x := 8) p2' fun w3 q3 q4 q5 => ?_
    obtain ⟨v', w5, S5, b0, b1, b2, b3, b4, b5, b6⟩ := cont w3 q3 q4 q5
    refine WS_run 1000 (by simp only [go_sem, eRun_exit, Nat.reduceAdd, Nat.reduceLT, Nat.reduceEqDiff, reduceIte, reduceCtorEq, Int.reduceBEq, Int.reduceBNe, Int.reduceLT, Int.reduceLE, Int.reduceGT, Int.reduceGE, Int.reduceEq, Int.reduceAdd, Int.reduceSub, Int.reduceMul, Nat.reduceMul, Nat.reduceSub, Nat.reduceLeDiff, f0, f2, f3, b0, b1, b2, evParts, fillV, hov, tmC_len, b3, b4, b5, List.length_cons, List.length_nil]; rfl) ?_
    refine WS_call (by simp only [go_sem, eRun_exit, Nat.reduceAdd, Nat.reduceLT, Nat.reduceEqDiff, reduceIte, reduceCtorEq, Int.reduceBEq, Int.reduceBNe, Int.reduceLT, Int.reduceLE, Int.reduceGT, Int.reduceGE, Int.reduceEq, Int.reduceAdd, Int.reduceSub, Int.reduceMul, Nat.reduceMul, Nat.reduceSub, Nat.reduceLeDiff]) (by simp only [go_sem, eRun_exit, Nat.reduceAdd, Nat.reduceLT, Nat.reduceEqDiff, reduceIte, reduceCtorEq, Int.reduceBEq, Int.reduceBNe, Int.reduceLT, Int.reduceLE, Int.reduceGT, Int.reduceGE, Int.reduceEq, Int.reduceAdd, Int.reduceSub, Int.reduceMul, Nat.reduceMul, Nat.reduceSub, Nat.reduceLeDiff]; rfl) ?_
    have hw5 := hw.frm b6.frm fun x hx he => hw.no (he ▸ hx)
    refine psign_ok C b6.p hw5 ?_
    cases hs : rSign ws k1 [44] with
    | true =>
      rw [hs, if_pos rfl] at hfin'
      have hks := rSign_lt hs
      have hwr : IntKind.wrap .i64 (Int.ofNat k1 + 1) = Int.ofNat (k1 + 1) := wrap_succ (by have := hw.len; omega)
      have l1 := b6.p.l1
      have st := b6.p.cb.set (i := 1) (v := .int .i64 (Int.ofNat (k1 + 1))) (by simp) rfl
      refine WS_run 1000 (by simp only [go_sem, eRun_exit, Nat.reduceAdd, Nat.reduceLT, Nat.reduceEqDiff, reduceIte, reduceCtorEq, Int.reduceBEq, Int.reduceBNe, Int.reduceLT, Int.reduceLE, Int.reduceGT, Int.reduceGE, Int.reduceEq, Int.reduceAdd, Int.reduceSub, Int.reduceMul, Nat.reduceMul, Nat.reduceSub, Nat.reduceLeDiff, f0, f2, f3, l1, hwr, st, List.length_cons, List.length_nil]; rfl) ?_
      have pf : Frm (fun b => b = bp) (w5.put (aw.next + 1) [.int .i64 1, .str txt, v']) ((w5.put (aw.next + 1) [.int .i64 1, .str txt, v']).put bp [wv, .int .i64 (Int.ofNat (k1 + 1)), .int .i64 (Int.ofNat 8)]) := put_frm
      exact ih q _ _ (by omega) ⟨args ++ [t], k1 + 1, 8, v', S5, ⟨(by simp only [go_sem, eRun_exit, Nat.reduceAdd, Nat.reduceLT, Nat.reduceEqDiff, reduceIte, reduceCtorEq, Int.reduceBEq, Int.reduceBNe, Int.reduceLT, Int.reduceLE, Int.reduceGT, Int.reduceGE, Int.reduceEq, Int.reduceAdd, Int.reduceSub, Int.reduceMul, Nat.reduceMul, Nat.reduceSub, Nat.reduceLeDiff, f0] <;> rfl), (by simp only [go_sem, eRun_exit, Nat.reduceAdd, Nat.reduceLT, Nat.reduceEqDiff, reduceIte, reduceCtorEq, Int.reduceBEq, Int.reduceBNe, Int.reduceLT, Int.reduceLE, Int.reduceGT, Int.reduceGE, Int.reduceEq, Int.reduceAdd, Int.reduceSub, Int.reduceMul, Nat.reduceMul, Nat.reduceSub, Nat.reduceLeDiff, f2] <;> rfl), (by simp only [go_sem, eRun_exit, Nat.reduceAdd, Nat.reduceLT, Nat.reduceEqDiff, reduceIte, reduceCtorEq, Int.reduceBEq, Int.reduceBNe, Int.reduceLT, Int.reduceLE, Int.reduceGT, Int.reduceGE, Int.reduceEq, Int.reduceAdd, Int.reduceSub, Int.reduceMul, Nat.reduceMul, Nat.reduceSub, Nat.reduceLeDiff, f3] <;> rfl)⟩, ⟨⟨b6.p.lt, AE.T.get_put_same⟩, b6.frm.tr pf, b6.res.frm pf hn0, b6.lit.frm pf hn1, b6.buf.frm pf fun x hx he => by have := (b6.sep x hx).1; omega, b6.sep⟩, hl5', hks, by omega, hfin', fun h => by omega⟩
    | false =>
      rw [hs, if_neg (by simp)] at hfin'
      refine WS_runB 1000 (by simp only [go_sem, Nat.reduceAdd, Nat.reduceLT, Nat.reduceEqDiff, reduceIte, reduceCtorEq, Int.reduceBEq, Int.reduceBNe, Int.reduceLT, Int.reduceLE, Int.reduceGT, Int.reduceGE, Int.reduceEq, Int.reduceAdd, Int.reduceSub, Int.reduceMul, Nat.reduceMul, Nat.reduceSub, Nat.reduceLeDiff, f0, f2, f3]; rfl) ?_
      exact out _ _ _ ⟨v', S5, ⟨(by simp only [go_sem, eRun_exit, Nat.reduceAdd, Nat.reduceLT, Nat.reduceEqDiff, reduceIte, reduceCtorEq, Int.reduceBEq, Int.reduceBNe, Int.reduceLT, Int.reduceLE, Int.reduceGT, Int.reduceGE, Int.reduceEq, Int.reduceAdd, Int.reduceSub, Int.reduceMul, Nat.reduceMul, Nat.reduceSub, Nat.reduceLeDiff, f0] <;> rfl), (by simp only [go_sem, eRun_exit, Nat.reduceAdd, Nat.reduceLT, Nat.reduceEqDiff, reduceIte, reduceCtorEq, Int.reduceBEq, Int.reduceBNe, Int.reduceLT, Int.reduceLE, Int.reduceGT, Int.reduceGE, Int.reduceEq, Int.reduceAdd, Int.reduceSub, Int.reduceMul, Nat.reduceMul, Nat.reduceSub, Nat.reduceLeDiff, f2] <;> rfl), (by simp only [go_sem, eRun_exit, Nat.reduceAdd, Nat.reduceLT, Nat.reduceEqDiff, reduceIte, reduceCtorEq, Int.reduceBEq, Int.reduceBNe, Int.reduceLT, Int.reduceLE, Int.reduceGT, Int.reduceGE, Int.reduceEq, Int.reduceAdd, Int.reduceSub, Int.reduceMul, Nat.reduceMul, Nat.reduceSub, Nat.reduceLeDiff, f3] <;> rfl)⟩, by rw [← hfin']; exact b6⟩ rfl
  · rw [if_neg h4] at he2
    subst he2
    obtain ⟨v', w5, S5, b0, b1, b2, b3, b4, b5, b6⟩ := cont w2 p2' (Frm.refl _) rfl
    have hl54 : e2 = 0 → (args ++ [t]).length ≤ 4 := by
      intro h0
      have : args.length ≠ 4 := fun h => h4 ⟨h0, h⟩
      rw [List.length_append, List.length_singleton]; omega
    have fin2 : ∀ (fr : Fr), AF fr bp aw.next (aw.next + 1) → fr.get 95 = some (.ptr bp 0) → WS tab (.ops [⟨some 96, none, .call (.const (.func (.func n_ref8_P_sign) [] [])) [(.tmp 95), (.const (.str [44]))]⟩, ⟨some 97, none, .un .not (.tmp 96)⟩] :: .code (.cond (.tmp 97) (.exit 0) .skip) :: .code (.region [⟨some 98, none, .mov (.tmp 0)⟩, ⟨some 99, none, .nilCheck (.tmp 98)⟩, ⟨some 100, none, .fieldAddr 1 (.tmp 99)⟩, ⟨some 101, none, .load 1 false (.tmp 100)⟩, ⟨some 102, none, .bin .add (.tmp 101) (.const (.int .i64 1))⟩, ⟨some 103, none, .nilCheck (.tmp 98)⟩, ⟨some 104, none, .fieldAddr 1 (.tmp 103)⟩, ⟨none, none, .store 1 (.tmp 104) (.tmp 102)⟩]) :: .endB 1 :: .code (.loop k_ref8_P_atom_p2) :: .endB 0 :: s) fr (w5.put (aw.next + 1) [.int .i64 1, .str txt, v']) Q := by
      rintro fr ⟨f0, f2, f3⟩ f95
      refine WS_call (by simp only [wanted_none]) (by simp only [go_sem, f95]; rfl) ?_
      have hw5 := hw.frm b6.frm fun x hx he => hw.no (he ▸ hx)
      refine psign_ok C b6.p hw5 ?_
      cases hs : rSign ws k1 [44] with
      | true =>
        rw [hs, if_pos rfl] at hfin'
        have hks := rSign_lt hs
        have hwr : IntKind.wrap .i64 (Int.ofNat k1 + 1) = Int.ofNat (k1 + 1) := wrap_succ (by have := hw.len; omega)
        have l1 := b6.p.l1
        have st := b6.p.cb.set (i := 1) (v := .int .i64 (Int.ofNat (k1 + 1))) (by simp) rfl
        refine WS_run 1000 (by simp only [go_sem, eRun_exit, Nat.reduceAdd, Nat.reduceLT, Nat.reduceEqDiff, reduceIte, reduceCtorEq, Int.reduceBEq, Int.reduceBNe, Int.reduceLT, Int.reduceLE, Int.reduceGT, Int.reduceGE, Int.reduceEq, Int.reduceAdd, Int.reduceSub, Int.reduceMul, Nat.reduceMul, Nat.reduceSub, Nat.reduceLeDiff, f0, f2, f3, l1, hwr, st, List.length_cons, List.length_nil]; rfl) ?_
        have pf : Frm (fun b => b = bp) (w5.put (aw.next + 1) [.int .i64 1, .str txt, v']) ((w5.put (aw.next + 1) [.int .i64 1, .str txt, v']).put bp [wv, .int .i64 (Int.ofNat (k1 + 1)), .int .i64 (Int.ofNat e2)]) := put_frm
        exact ih q _ _ (by omega) ⟨args ++ [t], k1 + 1, e2, v', S5, ⟨(by simp only [go_sem, eRun_exit, Nat.reduceAdd, Nat.reduceLT, Nat.reduceEqDiff, reduceIte, reduceCtorEq, Int.reduceBEq, Int.reduceBNe, Int.reduceLT, Int.reduceLE, Int.reduceGT, Int.reduceGE, Int.reduceEq, Int.reduceAdd, Int.reduceSub, Int.reduceMul, Nat.reduceMul, Nat.reduceSub, Nat.reduceLeDiff, f0] <;> rfl), (by simp only [go_sem, eRun_exit, Nat.reduceAdd, Nat.reduceLT, Nat.reduceEqDiff, reduceIte, reduceCtorEq, Int.reduceBEq, Int.reduceBNe, Int.reduceLT, Int.reduceLE, Int.reduceGT, Int.reduceGE, Int.reduceEq, Int.reduceAdd, Int.reduceSub, Int.reduceMul, Nat.reduceMul, Nat.reduceSub, Nat.reduceLeDiff, f2] <;> rfl), (by simp only [go_sem, eRun_exit, Nat.reduceAdd, Nat.reduceLT, Nat.reduceEqDiff, reduceIte, reduceCtorEq, Int.reduceBEq, Int.reduceBNe, Int.reduceLT, Int.reduceLE, Int.reduceGT, Int.reduceGE, Int.reduceEq, Int.reduceAdd, Int.reduceSub, Int.reduceMul, Nat.reduceMul, Nat.reduceSub, Nat.reduceLeDiff, f3] <;> rfl)⟩, ⟨⟨b6.p.lt, AE.T.get_put_same⟩, b6.frm.tr pf, b6.res.frm pf hn0, b6.lit.frm pf hn1, b6.buf.frm pf fun x hx he => by have := (b6.sep x hx).1; omega, b6.sep⟩, hl5', hks, by omega, hfin', hl54⟩
      | false =>
        rw [hs, if_neg (by simp)] at hfin'
        refine WS_runB 1000 (by simp only [go_sem, Nat.reduceAdd, Nat.reduceLT, Nat.reduceEqDiff, reduceIte, reduceCtorEq, Int.reduceBEq, Int.reduceBNe, Int.reduceLT, Int.reduceLE, Int.reduceGT, Int.reduceGE, Int.reduceEq, Int.reduceAdd, Int.reduceSub, Int.reduceMul, Nat.reduceMul, Nat.reduceSub, Nat.reduceLeDiff, f0, f2, f3]; rfl) ?_
        exact out _ _ _ ⟨v', S5, ⟨(by simp only [go_sem, eRun_exit, Nat.reduceAdd, Nat.reduceLT, Nat.reduceEqDiff, reduceIte, reduceCtorEq, Int.reduceBEq, Int.reduceBNe, Int.reduceLT, Int.reduceLE, Int.reduceGT, Int.reduceGE, Int.reduceEq, Int.reduceAdd, Int.reduceSub, Int.reduceMul, Nat.reduceMul, Nat.reduceSub, Nat.reduceLeDiff, f0] <;> rfl), (by simp only [go_sem, eRun_exit, Nat.reduceAdd, Nat.reduceLT, Nat.reduceEqDiff, reduceIte, reduceCtorEq, Int.reduceBEq, Int.reduceBNe, Int.reduceLT, Int.reduceLE, Int.reduceGT, Int.reduceGE, Int.reduceEq, Int.reduceAdd, Int.reduceSub, Int.reduceMul, Nat.reduceMul, Nat.reduceSub, Nat.reduceLeDiff, f2] <;> rfl), (by simp only [go_sem, eRun_exit, Nat.reduceAdd, Nat.reduceLT, Nat.reduceEqDiff, reduceIte, reduceCtorEq, Int.reduceBEq, Int.reduceBNe, Int.reduceLT, Int.reduceLE, Int.reduceGT, Int.reduceGE, Int.reduceEq, Int.reduceAdd, Int.reduceSub, Int.reduceMul, Nat.reduceMul, Nat.reduceSub, Nat.reduceLeDiff, f3] <;> rfl)⟩, by rw [← hfin']; exact b6⟩ rfl
    by_cases h0 : e2 = 0
    · have h4' : ¬ args.length = 4 := fun h => h4 ⟨h0, h⟩
      subst h0
      refine WS_run 1000 (by simp only [go_sem, eRun_exit, Nat.reduceAdd, Nat.reduceLT, Nat.reduceEqDiff, reduceIte, reduceCtorEq, Int.reduceBEq, Int.reduceBNe, Int.reduceLT, Int.reduceLE, Int.reduceGT, Int.reduceGE, Int.reduceEq, Int.reduceAdd, Int.reduceSub, Int.reduceMul, Nat.reduceMul, Nat.reduceSub, Nat.reduceLeDiff, s2, tl, l2, la, hlv, h4', f0, f2, f3, b0, b1, b2, evParts, fillV, hov, tmC_len, b3, b4, b5, List.length_cons, List.length_nil]; rfl) ?_
      exact fin2 _ ⟨(by simp only [go_sem, eRun_exit, Nat.reduceAdd, Nat.reduceLT, Nat.reduceEqDiff, reduceIte, reduceCtorEq, Int.reduceBEq, Int.reduceBNe, Int.reduceLT, Int.reduceLE, Int.reduceGT, Int.reduceGE, Int.reduceEq, Int.reduceAdd, Int.reduceSub, Int.reduceMul, Nat.reduceMul, Nat.reduceSub, Nat.reduceLeDiff, f0] <;> rfl), (by simp only [go_sem, eRun_exit, Nat.reduceAdd, Nat.reduceLT, Nat.reduceEqDiff, reduceIte, reduceCtorEq, Int.reduceBEq, Int.reduceBNe, Int.reduceLT, Int.reduceLE, Int.reduceGT, Int.reduceGE, Int.reduceEq, Int.reduceAdd, Int.reduceSub, Int.reduceMul, Nat.reduceMul, Nat.reduceSub, Nat.reduceLeDiff, f2] <;> rfl), (by simp only [go_sem, eRun_exit, Nat.reduceAdd, Nat.reduceLT, Nat.reduceEqDiff, reduceIte, reduceCtorEq, Int.reduceBEq, Int.reduceBNe, Int.reduceLT, Int.reduceLE, Int.reduceGT, Int.reduceGE, Int.reduceEq, Int.reduceAdd, Int.reduceSub, Int.reduceMul, Nat.reduceMul, Nat.reduceSub, Nat.reduceLeDiff, f3] <;> rfl)⟩ (by simp only [go_sem, eRun_exit, Nat.reduceAdd, Nat.reduceLT, Nat.reduceEqDiff, reduceIte, reduceCtorEq, Int.reduceBEq, Int.reduceBNe, Int.reduceLT, Int.reduceLE, Int.reduceGT, Int.reduceGE, Int.reduceEq, Int.reduceAdd, Int.reduceSub, Int.reduceMul, Nat.reduceMul, Nat.reduceSub, Nat.reduceLeDiff] <;> rfl)
    · refine WS_run 1000 (by simp only [go_sem, eRun_exit, Nat.reduceAdd, Nat.reduceLT, Nat.reduceEqDiff, reduceIte, reduceCtorEq, Int.reduceBEq, Int.reduceBNe, Int.reduceLT, Int.reduceLE, Int.reduceGT, Int.reduceGE, Int.reduceEq, Int.reduceAdd, Int.reduceSub, Int.reduceMul, Nat.reduceMul, Nat.reduceSub, Nat.reduceLeDiff, s2, tl, l2, la, h0, f0, f2, f3, b0, b1, b2, evParts, fillV, hov, tmC_len, b3, b4, b5, List.length_cons, List.length_nil]; rfl) ?_
      exact fin2 _ ⟨(by simp only [go_sem, eRun_exit, Nat.reduceAdd, Nat.reduceLT, Nat.reduceEqDiff, reduceIte, reduceCtorEq, Int.reduceBEq, Int.reduceBNe, Int.reduceLT, Int.reduceLE, Int.reduceGT, Int.reduceGE, Int.reduceEq, Int.reduceAdd, Int.reduceSub, Int.reduceMul, Nat.reduceMul, Nat.reduceSub, Nat.reduceLeDiff, f0] <;> rfl), (by simp only [go_sem, eRun_exit, Nat.reduceAdd, Nat.reduceLT, Nat.reduceEqDiff, reduceIte, reduceCtorEq, Int.reduceBEq, Int.reduceBNe, Int.reduceLT, Int.reduceLE, Int.reduceGT, Int.reduceGE, Int.reduceEq, Int.reduceAdd, Int.reduceSub, Int.reduceMul, Nat.reduceMul, Nat.reduceSub, Nat.reduceLeDiff, f2] <;> rfl), (by simp only [go_sem, eRun_exit, Nat.reduceAdd, Nat.reduceLT, Nat.reduceEqDiff, reduceIte, reduceCtorEq, Int.reduceBEq, Int.reduceBNe, Int.reduceLT, Int.reduceLE, Int.reduceGT, Int.reduceGE, Int.reduceEq, Int.reduceAdd, Int.reduceSub, Int.reduceMul, Nat.reduceMul, Nat.reduceSub, Nat.reduceLeDiff, f3] <;> rfl)⟩ (by simp only [go_sem, eRun_exit, Nat.reduceAdd, Nat.reduceLT, Nat.reduceEqDiff, reduceIte, reduceCtorEq, Int.reduceBEq, Int.reduceBNe, Int.reduceLT, Int.reduceLE, Int.reduceGT, Int.reduceGE, Int.reduceEq, Int.reduceAdd, Int.reduceSub, Int.reduceMul, Nat.reduceMul, Nat.reduceSub, Nat.reduceLeDiff] <;> rfl)
end Go.Proofs.Ytjidefnbancmfaa

/- The reference's parser: atoms, whole. -/
set_option linter.unusedVariables false
set_option maxRecDepth 10000
set_option linter.unusedSimpArgs false
namespace Go.Proofs.Ytjidefnbancmfaa
open Go.AE Delphi
variable {tab : Tab}
/-- a literal's cells. -/
def LtC (T : Nat → Prop) (w : AW) (l : Lt) (xs : List V) : Prop := ∃ v, xs = [.int .i64 (Int.ofNat l.kind), .str l.name, v] ∧ Rd T w v 3 l.args.length (tmsC l.args)
theorem LtC.frm {T S : Nat → Prop} {w w' : AW} {l : Lt} {xs : List V} (h : LtC T w l xs) (hf : Frm S w w') (hd : ∀ x, T x → ¬ S x) : LtC T w' l xs := by
  obtain ⟨v, h1, h2⟩ := h; exact ⟨v, h1, h2.frm hf hd⟩
theorem LtC.mono {T T' : Nat → Prop} {w : AW} {l : Lt} {xs : List V} (h : LtC T w l xs) (ht : ∀ x, T x → T' x) : LtC T' w l xs := by
  obtain ⟨v, h1, h2⟩ := h; exact ⟨v, h1, h2.mono ht⟩
theorem LtC.one {T : Nat → Prop} {w : AW} {l : Lt} {xs : List V} (h : LtC T w l xs) : xs.length = 3 ∧ allOne xs = true := by
  obtain ⟨v, rfl, h2⟩ := h
  refine ⟨rfl, ?_⟩
  rcases h2.inv with ⟨rfl, _⟩ | ⟨_, _, _, rfl, _⟩ <;> rfl
theorem LtC.zero {T : Nat → Prop} {w : AW} : LtC T w Lt.zero [.int .i64 0, .str [], .nilslice] := ⟨.nilslice, rfl, .nil⟩
/-- atom. -/
theorem patom_ok (C : Codes tab) {Tw : Nat → Prop} {bp k e : Nat} {wv : V} {ws : List Wd} {aw : AW} {K : V → AW → Prop} (hp : PSt aw bp wv k e) (hw : Wds Tw aw bp wv ws) (hok : ∀ x ∈ ws, WOk x) (hT : ∀ x, Tw x → x < aw.next) (hk : k ≤ ws.length)
    (h : ∀ w T xs, PSt w bp wv (rAtom ws k e).2.1 (rAtom ws k e).2.2 → Frm (fun b => b = bp) aw w → LtC T w (rAtom ws k e).1 xs → (∀ x, T x → aw.next ≤ x ∧ x < w.next) → K (.agg xs) w) : WF tab n_ref8_P_atom [.ptr bp 0] aw K := by
  refine WF_of C.c_ref8_P_atom rfl ?_
  have hlt := hp.lt
  have hne : ¬ aw.next = bp := by omega
  obtain ⟨zs, hzs⟩ : ∃ zs, zs = [V.int .i64 0, V.str [], V.nilslice] := ⟨_, rfl⟩
  have hp1 := hp.frm (fresh_frm (S := fun _ => False) aw zs) fun h => h
  have hw1 := hw.frm (fresh_frm (S := fun _ => False) aw zs) fun _ _ h => h
  have l0 := hp1.l0
  have l1 := hp1.l1
  have l2 := hp1.l2
  have hzl : zs.length = 3 := by rw [hzs]; rfl
  have hov : ∀ v u : V, over zs 0 [v] = some [v, V.str [], V.nilslice] := fun v u => by rw [hzs]; rfl
  have hc0 := fresh_cb aw zs
  -- the end
  have fine : ∀ (w : AW) (k' e' : Nat) (l : Lt) (T : Nat → Prop) (xs : List V), PSt w bp wv k' e' → Frm (fun b => b = bp) (aw.fresh zs) w → rAtom ws k e = (l, k', e') → LtC T w l xs → (∀ x, T x → aw.next < x ∧ x < w.next) → K (.agg xs) (w.put aw.next xs) := by
    intro w k' e' l T xs h1 h2 h3 h4 h5
    rw [h3] at h
    exact h _ T xs (h1.frm put_frm (fun h => hne h.symm)) ((fresh_frm (S := fun b => b = bp) aw zs).tr h2 |>.out (Nat.le_refl _) rfl) (h4.frm put_frm fun x hx he => by have := (h5 x hx).1; omega) fun x hx => ⟨by have := (h5 x hx).1; omega, (h5 x hx).2⟩
  -- no word
  have no : ∀ {s : List SI} {fr : Fr}, rAtom ws k e = (Lt.zero, k, rBad e 4) → fr.get 0 = some (.ptr bp 0) → fr.get 2 = some (.ptr aw.next 0) → WS tab (.code k_ref8_P_atom_p0 :: s) fr (aw.fresh zs) (fun fr' aw' => ∃ vs, resV fr' aw' k_ref8_P_atom.results = some vs ∧ K (resOne vs) aw') := by
    intro s fr hr f0 f2
    refine WS_run 1000 (by simp only [go_sem, eRun_exit, Nat.reduceAdd, Nat.reduceLT, Nat.reduceEqDiff, reduceIte, reduceCtorEq, Int.reduceBEq, Int.reduceBNe, Int.reduceLT, Int.reduceLE, Int.reduceGT, Int.reduceGE, Int.reduceEq, Int.reduceAdd, Int.reduceSub, Int.reduceMul, Nat.reduceMul, Nat.reduceSub, Nat.reduceLeDiff, k_ref8_P_atom_p0, f0, f2]; rfl) ?_
    refine WS_call (by simp only [go_sem, eRun_exit, Nat.reduceAdd, Nat.reduceLT, Nat.reduceEqDiff, reduceIte, reduceCtorEq, Int.reduceBEq, Int.reduceBNe, Int.reduceLT, Int.reduceLE, Int.reduceGT, Int.reduceGE, Int.reduceEq, Int.reduceAdd, Int.reduceSub, Int.reduceMul, Nat.reduceMul, Nat.reduceSub, Nat.reduceLeDiff]) (by simp only [go_sem, eRun_exit, Nat.reduceAdd, Nat.reduceLT, Nat.reduceEqDiff, reduceIte, reduceCtorEq, Int.reduceBEq, Int.reduceBNe, Int.reduceLT, Int.reduceLE, Int.reduceGT, Int.reduceGE, Int.reduceEq, Int.reduceAdd, Int.reduceSub, Int.reduceMul, Nat.reduceMul, Nat.reduceSub, Nat.reduceLeDiff]; rfl) ?_
    refine bad_ok C (x := 4) hp1 fun w q1 q2 q3 => ?_
    have hc := hc0.frm q2 hne
    have hst := hc.setAll (vs := [V.int .i64 0, V.str [], V.nilslice]) hzl rfl
    have hrl := (put_cb (l := [V.int .i64 0, V.str [], V.nilslice]) hc.lt).all (n := 3) rfl
    refine WS_run 1000 (by simp only [go_sem, eRun_exit, Nat.reduceAdd, Nat.reduceLT, Nat.reduceEqDiff, reduceIte, reduceCtorEq, Int.reduceBEq, Int.reduceBNe, Int.reduceLT, Int.reduceLE, Int.reduceGT, Int.reduceGE, Int.reduceEq, Int.reduceAdd, Int.reduceSub, Int.reduceMul, Nat.reduceMul, Nat.reduceSub, Nat.reduceLeDiff, f0, f2, evParts, fillV, V.cells, hst, List.length_cons, List.length_nil]; rfl) ?_
    refine WS_ret ⟨_, by simp only [go_sem, eRun_exit, Nat.reduceAdd, Nat.reduceLT, Nat.reduceEqDiff, reduceIte, reduceCtorEq, Int.reduceBEq, Int.reduceBNe, Int.reduceLT, Int.reduceLE, Int.reduceGT, Int.reduceGE, Int.reduceEq, Int.reduceAdd, Int.reduceSub, Int.reduceMul, Nat.reduceMul, Nat.reduceSub, Nat.reduceLeDiff, k_ref8_P_atom, f2, hrl]; rfl, ?_⟩
    exact fine w _ _ _ (fun _ => False) _ q1 q2 hr LtC.zero fun _ h => h.elim
  by_cases he : e = 0
  case neg =>
    have hr : rAtom ws k e = (Lt.zero, k, rBad e 4) := by simp [rAtom, rNext, he]
    refine WS_runB 1000 (by simp only [go_sem, eRun_exit, Nat.reduceAdd, Nat.reduceLT, Nat.reduceEqDiff, reduceIte, reduceCtorEq, Int.reduceBEq, Int.reduceBNe, Int.reduceLT, Int.reduceLE, Int.reduceGT, Int.reduceGE, Int.reduceEq, Int.reduceAdd, Int.reduceSub, Int.reduceMul, Nat.reduceMul, Nat.reduceSub, Nat.reduceLeDiff, k_ref8_P_atom, ← hzs, l2, he]; rfl) ?_
    exact no hr (by simp only [go_sem, eRun_exit, Nat.reduceAdd, Nat.reduceLT, Nat.reduceEqDiff, reduceIte, reduceCtorEq, Int.reduceBEq, Int.reduceBNe, Int.reduceLT, Int.reduceLE, Int.reduceGT, Int.reduceGE, Int.reduceEq, Int.reduceAdd, Int.reduceSub, Int.reduceMul, Nat.reduceMul, Nat.reduceSub, Nat.reduceLeDiff] <;> rfl) (by simp only [go_sem, eRun_exit, Nat.reduceAdd, Nat.reduceLT, Nat.reduceEqDiff, reduceIte, reduceCtorEq, Int.reduceBEq, Int.reduceBNe, Int.reduceLT, Int.reduceLE, Int.reduceGT, Int.reduceGE, Int.reduceEq, Int.reduceAdd, Int.reduceSub, Int.reduceMul, Nat.reduceMul, Nat.reduceSub, Nat.reduceLeDiff] <;> rfl)
  subst he
  by_cases hkk : ws.length ≤ k
  · have hr : rAtom ws k 0 = (Lt.zero, k, rBad 0 4) := by
      have : rNext ws k 0 = none := by unfold rNext; rw [if_pos rfl, List.getElem?_eq_none hkk]
      simp only [rAtom, this]
    have hlv := hw1.rd.lenV
    refine WS_runB 1000 (by simp only [go_sem, eRun_exit, Nat.reduceAdd, Nat.reduceLT, Nat.reduceEqDiff, reduceIte, reduceCtorEq, Int.reduceBEq, Int.reduceBNe, Int.reduceLT, Int.reduceLE, Int.reduceGT, Int.reduceGE, Int.reduceEq, Int.reduceAdd, Int.reduceSub, Int.reduceMul, Nat.reduceMul, Nat.reduceSub, Nat.reduceLeDiff, k_ref8_P_atom, ← hzs, l0, l1, l2, hlv, hkk]; rfl) ?_
    exact no hr (by simp only [go_sem, eRun_exit, Nat.reduceAdd, Nat.reduceLT, Nat.reduceEqDiff, reduceIte, reduceCtorEq, Int.reduceBEq, Int.reduceBNe, Int.reduceLT, Int.reduceLE, Int.reduceGT, Int.reduceGE, Int.reduceEq, Int.reduceAdd, Int.reduceSub, Int.reduceMul, Nat.reduceMul, Nat.reduceSub, Nat.reduceLeDiff] <;> rfl) (by simp only [go_sem, eRun_exit, Nat.reduceAdd, Nat.reduceLT, Nat.reduceEqDiff, reduceIte, reduceCtorEq, Int.reduceBEq, Int.reduceBNe, Int.reduceLT, Int.reduceLE, Int.reduceGT, Int.reduceGE, Int.reduceEq, Int.reduceAdd, Int.reduceSub, Int.reduceMul, Nat.reduceMul, Nat.reduceSub, Nat.reduceLeDiff] <;> rfl)
  have hkl : k < ws.length := by omega
  obtain ⟨x, hx⟩ : ∃ x, ws[k]? = some x := ⟨_, List.getElem?_eq_getElem hkl⟩
  have hnx : rNext ws k 0 = some x := by unfold rNext; rw [if_pos rfl, hx]
  rcases hw1.at with ⟨rfl, rfl⟩ | ⟨b, o, c, rfl, hneb, hltb, hat⟩
  · simp at hkl
  obtain ⟨a1, a2, a3⟩ := hat k x hx
  by_cases h1k : x.kind = 1
  case neg =>
    have hr : rAtom ws k 0 = (Lt.zero, k, rBad 0 4) := by
      simp only [rAtom, hnx]
      rw [if_neg h1k]; rfl
    refine WS_runB 1000 (by simp only [go_sem, eRun_exit, Nat.reduceAdd, Nat.reduceLT, Nat.reduceEqDiff, reduceIte, reduceCtorEq, Int.reduceBEq, Int.reduceBNe, Int.reduceLT, Int.reduceLE, Int.reduceGT, Int.reduceGE, Int.reduceEq, Int.reduceAdd, Int.reduceSub, Int.reduceMul, Nat.reduceMul, Nat.reduceSub, Nat.reduceLeDiff, k_ref8_P_atom, ← hzs, l0, l1, l2, hkk, hkl, a1, h1k]; rfl) ?_
    exact no hr (by simp only [go_sem, eRun_exit, Nat.reduceAdd, Nat.reduceLT, Nat.reduceEqDiff, reduceIte, reduceCtorEq, Int.reduceBEq, Int.reduceBNe, Int.reduceLT, Int.reduceLE, Int.reduceGT, Int.reduceGE, Int.reduceEq, Int.reduceAdd, Int.reduceSub, Int.reduceMul, Nat.reduceMul, Nat.reduceSub, Nat.reduceLeDiff] <;> rfl) (by simp only [go_sem, eRun_exit, Nat.reduceAdd, Nat.reduceLT, Nat.reduceEqDiff, reduceIte, reduceCtorEq, Int.reduceBEq, Int.reduceBNe, Int.reduceLT, Int.reduceLE, Int.reduceGT, Int.reduceGE, Int.reduceEq, Int.reduceAdd, Int.reduceSub, Int.reduceMul, Nat.reduceMul, Nat.reduceSub, Nat.reduceLeDiff] <;> rfl)
  refine WS_run 1000 (by simp only [go_sem, eRun_exit, Nat.reduceAdd, Nat.reduceLT, Nat.reduceEqDiff, reduceIte, reduceCtorEq, Int.reduceBEq, Int.reduceBNe, Int.reduceLT, Int.reduceLE, Int.reduceGT, Int.reduceGE, Int.reduceEq, Int.reduceAdd, Int.reduceSub, Int.reduceMul, Nat.reduceMul, Nat.reduceSub, Nat.reduceLeDiff, k_ref8_P_atom, ← hzs, l0, l1, l2, hkk, hkl, a1, h1k]; rfl) ?_
  refine WS_drawn ?_
  have lift : ∀ {b' o' n' l'}, b' < (aw.fresh zs).next → (aw.fresh zs).load b' o' n' = some l' → ((aw.fresh zs).fresh zs).load b' o' n' = some l' := by
    intro b' o' n' l' hb hl
    have : ((aw.fresh zs).fresh zs).heap.get b' = (aw.fresh zs).heap.get b' := AE.T.get_put_ne (by omega)
    simp only [AW.load] at hl ⊢
    rw [this]; exact hl
  have m0 := lift hp1.lt l0
  have m1 := lift hp1.lt l1
  have m2 := lift hltb a2
  obtain ⟨w3, s3, c3, r3, n3⟩ := boxed (aw.fresh zs) (zs := zs) (vs := [V.int .i64 1, V.str x.text, V.nilslice]) hzl rfl
  have hov2 : over [V.int .i64 1, V.str [], V.nilslice] 1 [V.str x.text] = some [V.int .i64 1, V.str x.text, V.nilslice] := rfl
  have hov1 : over zs 0 [V.int .i64 1] = some [V.int .i64 1, V.str [], V.nilslice] := by rw [hzs]; rfl
  refine WDs_run 100 (by simp only [go_sem, eRun_exit, Nat.reduceAdd, Nat.reduceLT, Nat.reduceEqDiff, reduceIte, reduceCtorEq, Int.reduceBEq, Int.reduceBNe, Int.reduceLT, Int.reduceLE, Int.reduceGT, Int.reduceGE, Int.reduceEq, Int.reduceAdd, Int.reduceSub, Int.reduceMul, Nat.reduceMul, Nat.reduceSub, Nat.reduceLeDiff, ← hzs, l0, l1, hkl, a2, evParts, fillV, hov1, hov2, s3, List.length_cons, List.length_nil]; rfl) ?_
  refine WDs_nil ⟨(show chkAll _ _ [(3, 12), (7, 12), (10, 12)] from by simp only [go_sem, eRun_exit, Nat.reduceAdd, Nat.reduceLT, Nat.reduceEqDiff, reduceIte, reduceCtorEq, Int.reduceBEq, Int.reduceBNe, Int.reduceLT, Int.reduceLE, Int.reduceGT, Int.reduceGE, Int.reduceEq, Int.reduceAdd, Int.reduceSub, Int.reduceMul, Nat.reduceMul, Nat.reduceSub, Nat.reduceLeDiff, chkAll, chk, List.reverse_cons, List.reverse_nil, mkStp_fe, mkStp_v, mkStp_0, mkStp_1, List.getElem?_nil, false_or, or_true, or_false, exists_eq', Option.some.injEq, Prod.mk.injEq, Bool.true_eq_false, Bool.false_eq_true, and_true, true_and, implies_true,  l0, l1, m0, m1, hkl, a2, m2]), ?_⟩
  -- one on
  have hp3 := hp1.frm r3 fun h => h
  have hwr : IntKind.wrap .i64 (Int.ofNat k + 1) = Int.ofNat (k + 1) := wrap_succ (by have := hw.len; omega)
  have l31 := hp3.l1
  have s1 := hp3.cb.set (i := 1) (v := .int .i64 (Int.ofNat (k + 1))) (by simp) rfl
  have hp4 : PSt (w3.put bp ([V.slice b o ws.length c, .int .i64 (Int.ofNat k), .int .i64 (Int.ofNat 0)].set 1 (.int .i64 (Int.ofNat (k + 1))))) bp (.slice b o ws.length c) (k + 1) 0 := ⟨hp3.lt, AE.T.get_put_same⟩
  have r4 : Frm (fun b => b = bp) (aw.fresh zs) (w3.put bp ([V.slice b o ws.length c, .int .i64 (Int.ofNat k), .int .i64 (Int.ofNat 0)].set 1 (.int .i64 (Int.ofNat (k + 1))))) := r3.no.tr put_frm
  have hn1 : ¬ (aw.fresh zs).next = bp := by have := hp1.lt; omega
  have c4 := c3.frm (put_frm (l := [V.slice b o ws.length c, .int .i64 (Int.ofNat k), .int .i64 (Int.ofNat 0)].set 1 (.int .i64 (Int.ofNat (k + 1))))) hn1
  have n4 : (w3.put bp ([V.slice b o ws.length c, .int .i64 (Int.ofNat k), .int .i64 (Int.ofNat 0)].set 1 (.int .i64 (Int.ofNat (k + 1))))).next = aw.next + 1 + 1 := n3
  generalize w3.put bp ([V.slice b o ws.length c, .int .i64 (Int.ofNat k), .int .i64 (Int.ofNat 0)].set 1 (.int .i64 (Int.ofNat (k + 1)))) = w4 at s1 hp4 r4 c4 n4
  refine WS_run 1000 (by simp only [go_sem, eRun_exit, Nat.reduceAdd, Nat.reduceLT, Nat.reduceEqDiff, reduceIte, reduceCtorEq, Int.reduceBEq, Int.reduceBNe, Int.reduceLT, Int.reduceLE, Int.reduceGT, Int.reduceGE, Int.reduceEq, Int.reduceAdd, Int.reduceSub, Int.reduceMul, Nat.reduceMul, Nat.reduceSub, Nat.reduceLeDiff, l31, hwr, s1, List.length_cons, List.length_nil]; rfl) ?_
  refine WS_call (by simp only [go_sem, eRun_exit, Nat.reduceAdd, Nat.reduceLT, Nat.reduceEqDiff, reduceIte, reduceCtorEq, Int.reduceBEq, Int.reduceBNe, Int.reduceLT, Int.reduceLE, Int.reduceGT, Int.reduceGE, Int.reduceEq, Int.reduceAdd, Int.reduceSub, Int.reduceMul, Nat.reduceMul, Nat.reduceSub, Nat.reduceLeDiff]) (by simp only [go_sem, eRun_exit, Nat.reduceAdd, Nat.reduceLT, Nat.reduceEqDiff, reduceIte, reduceCtorEq, Int.reduceBEq, Int.reduceBNe, Int.reduceLT, Int.reduceLE, Int.reduceGT, Int.reduceGE, Int.reduceEq, Int.reduceAdd, Int.reduceSub, Int.reduceMul, Nat.reduceMul, Nat.reduceSub, Nat.reduceLeDiff]; rfl) ?_
  have hw4 := hw1.frm r4 fun y hy he => hw1.no (he ▸ hy)
  refine psign_ok C hp4 hw4 ?_
  have c40 := hc0.frm r4 hne
  cases hs : rSign ws (k + 1) [40] with
  | false =>
    have hr : rAtom ws k 0 = (⟨1, x.text, []⟩, k + 1, 0) := by
      simp only [rAtom, hnx]
      rw [if_pos h1k, hs, if_neg (by simp)]
    have la := c4.all (n := 3) rfl
    have hst := c40.setAll (vs := [V.int .i64 1, V.str x.text, V.nilslice]) hzl rfl
    have hrl := (put_cb (l := [V.int .i64 1, V.str x.text, V.nilslice]) c40.lt).all (n := 3) rfl
    refine WS_run 1000 (by simp only [go_sem, eRun_exit, Nat.reduceAdd, Nat.reduceLT, Nat.reduceEqDiff, reduceIte, reduceCtorEq, Int.reduceBEq, Int.reduceBNe, Int.reduceLT, Int.reduceLE, Int.reduceGT, Int.reduceGE, Int.reduceEq, Int.reduceAdd, Int.reduceSub, Int.reduceMul, Nat.reduceMul, Nat.reduceSub, Nat.reduceLeDiff, la, hst, List.length_cons, List.length_nil]; rfl) ?_
    refine WS_ret ⟨_, by simp only [go_sem, eRun_exit, Nat.reduceAdd, Nat.reduceLT, Nat.reduceEqDiff, reduceIte, reduceCtorEq, Int.reduceBEq, Int.reduceBNe, Int.reduceLT, Int.reduceLE, Int.reduceGT, Int.reduceGE, Int.reduceEq, Int.reduceAdd, Int.reduceSub, Int.reduceMul, Nat.reduceMul, Nat.reduceSub, Nat.reduceLeDiff, k_ref8_P_atom, hrl]; rfl, ?_⟩
    exact fine w4 _ _ _ (fun _ => False) _ hp4 r4 hr ⟨.nilslice, rfl, .nil⟩ fun _ h => h.elim
  | true =>
    have hks := rSign_lt hs
    have hwr2 : IntKind.wrap .i64 (Int.ofNat (k + 1) + 1) = Int.ofNat (k + 1 + 1) := wrap_succ (by have := hw.len; omega)
    have l41 := hp4.l1
    have s2 := hp4.cb.set (i := 1) (v := .int .i64 (Int.ofNat (k + 1 + 1))) (by simp) rfl
    refine WS_run 1000 (by simp only [go_sem, eRun_exit, Nat.reduceAdd, Nat.reduceLT, Nat.reduceEqDiff, reduceIte, reduceCtorEq, Int.reduceBEq, Int.reduceBNe, Int.reduceLT, Int.reduceLE, Int.reduceGT, Int.reduceGE, Int.reduceEq, Int.reduceAdd, Int.reduceSub, Int.reduceMul, Nat.reduceMul, Nat.reduceSub, Nat.reduceLeDiff, l41, hwr2, s2, List.length_cons, List.length_nil]; rfl) ?_
    have pf : Frm (fun b => b = bp) w4 (w4.put bp ([V.slice b o ws.length c, .int .i64 (Int.ofNat (k + 1)), .int .i64 (Int.ofNat 0)].set 1 (.int .i64 (Int.ofNat (k + 1 + 1))))) := put_frm
    have hfr5 := (fresh_frm (S := fun b => b = bp) aw zs).tr (r4.tr pf)
    refine WS_loopJ (ArgI Tw aw bp (.slice b o ws.length c) ws x.text (rArgs ws (ws.length + 1) [] (k + 2) 0)) (ArgJ Tw aw bp (.slice b o ws.length c) x.text (rArgs ws (ws.length + 1) [] (k + 2) 0)) (fun n f w hI ih out => arg_step C hw hok hT hlt hI ih out) ?_ (ws.length + 1)
      ⟨[], k + 2, 0, .nilslice, fun _ => False, ⟨(by simp only [go_sem, eRun_exit, Nat.reduceAdd, Nat.reduceLT, Nat.reduceEqDiff, reduceIte, reduceCtorEq, Int.reduceBEq, Int.reduceBNe, Int.reduceLT, Int.reduceLE, Int.reduceGT, Int.reduceGE, Int.reduceEq, Int.reduceAdd, Int.reduceSub, Int.reduceMul, Nat.reduceMul, Nat.reduceSub, Nat.reduceLeDiff] <;> rfl), (by simp only [go_sem, eRun_exit, Nat.reduceAdd, Nat.reduceLT, Nat.reduceEqDiff, reduceIte, reduceCtorEq, Int.reduceBEq, Int.reduceBNe, Int.reduceLT, Int.reduceLE, Int.reduceGT, Int.reduceGE, Int.reduceEq, Int.reduceAdd, Int.reduceSub, Int.reduceMul, Nat.reduceMul, Nat.reduceSub, Nat.reduceLeDiff] <;> rfl), (by simp only [go_sem, eRun_exit, Nat.reduceAdd, Nat.reduceLT, Nat.reduceEqDiff, reduceIte, reduceCtorEq, Int.reduceBEq, Int.reduceBNe, Int.reduceLT, Int.reduceLE, Int.reduceGT, Int.reduceGE, Int.reduceEq, Int.reduceAdd, Int.reduceSub, Int.reduceMul, Nat.reduceMul, Nat.reduceSub, Nat.reduceLeDiff] <;> rfl)⟩, ⟨⟨by show bp < w4.next; rw [n4]; omega, AE.T.get_put_same⟩, hfr5, by rw [← hzs]; exact c40.frm pf hne, c4.frm pf hn1, .nil, fun _ h => h.elim⟩, by simp, hks, by omega, rfl, by simp⟩
    rintro f w ⟨av, S, ⟨f0, f2, f3⟩, hA⟩
    generalize hra : rArgs ws (ws.length + 1) [] (k + 2) 0 = ra at hA
    obtain ⟨args, k5, e5⟩ := ra
    simp only at hA
    have hk5 : k5 ≤ ws.length := by
      have := rArgs_le (ws := ws) (ws.length + 1) [] (k + 2) 0 hks
      rw [hra] at this; exact this
    refine WS_run 1000 (by simp only [go_sem, eRun_exit, Nat.reduceAdd, Nat.reduceLT, Nat.reduceEqDiff, reduceIte, reduceCtorEq, Int.reduceBEq, Int.reduceBNe, Int.reduceLT, Int.reduceLE, Int.reduceGT, Int.reduceGE, Int.reduceEq, Int.reduceAdd, Int.reduceSub, Int.reduceMul, Nat.reduceMul, Nat.reduceSub, Nat.reduceLeDiff, f0]; rfl) ?_
    refine WS_call (by simp only [go_sem, eRun_exit, Nat.reduceAdd, Nat.reduceLT, Nat.reduceEqDiff, reduceIte, reduceCtorEq, Int.reduceBEq, Int.reduceBNe, Int.reduceLT, Int.reduceLE, Int.reduceGT, Int.reduceGE, Int.reduceEq, Int.reduceAdd, Int.reduceSub, Int.reduceMul, Nat.reduceMul, Nat.reduceSub, Nat.reduceLeDiff]) (by simp only [go_sem, eRun_exit, Nat.reduceAdd, Nat.reduceLT, Nat.reduceEqDiff, reduceIte, reduceCtorEq, Int.reduceBEq, Int.reduceBNe, Int.reduceLT, Int.reduceLE, Int.reduceGT, Int.reduceGE, Int.reduceEq, Int.reduceAdd, Int.reduceSub, Int.reduceMul, Nat.reduceMul, Nat.reduceSub, Nat.reduceLeDiff]; rfl) ?_
    have hww := hw.frm hA.frm fun y hy he => hw.no (he ▸ hy)
    refine peat_ok C hA.p hww (by have := hw.len; omega) fun w6 q1 q2 q3 => ?_
    have lit6 := hA.lit.frm q2 (by omega)
    have res6 := hA.res.frm q2 hne
    have buf6 := hA.buf.frm q2 fun y hy he => by have := (hA.sep y hy).1; omega
    have hr : rAtom ws k 0 = (⟨1, x.text, args⟩, (rEat ws [41] k5 e5).1, (rEat ws [41] k5 e5).2) := by
      simp only [rAtom, hnx]
      rw [if_pos h1k, hs, if_pos rfl, hra]
    have la := lit6.all (n := 3) rfl
    have aone : allOne [V.int .i64 1, V.str x.text, av] = true := by rcases hA.buf.inv with ⟨rfl, _⟩ | ⟨_, rfl, _⟩ <;> rfl
    have hst := res6.setAll (vs := [V.int .i64 1, V.str x.text, av]) rfl aone
    have hrl := (put_cb (l := [V.int .i64 1, V.str x.text, av]) res6.lt).all (n := 3) rfl
    refine WS_run 1000 (by simp only [go_sem, eRun_exit, Nat.reduceAdd, Nat.reduceLT, Nat.reduceEqDiff, reduceIte, reduceCtorEq, Int.reduceBEq, Int.reduceBNe, Int.reduceLT, Int.reduceLE, Int.reduceGT, Int.reduceGE, Int.reduceEq, Int.reduceAdd, Int.reduceSub, Int.reduceMul, Nat.reduceMul, Nat.reduceSub, Nat.reduceLeDiff, f0, f2, f3, la, hst, List.length_cons, List.length_nil]; rfl) ?_
    refine WS_ret ⟨_, by simp only [go_sem, eRun_exit, Nat.reduceAdd, Nat.reduceLT, Nat.reduceEqDiff, reduceIte, reduceCtorEq, Int.reduceBEq, Int.reduceBNe, Int.reduceLT, Int.reduceLE, Int.reduceGT, Int.reduceGE, Int.reduceEq, Int.reduceAdd, Int.reduceSub, Int.reduceMul, Nat.reduceMul, Nat.reduceSub, Nat.reduceLeDiff, k_ref8_P_atom, f2, hrl]; rfl, ?_⟩
    rw [hr] at h
    have r6 := hA.frm.tr q2
    exact h _ S _ (q1.frm put_frm (fun h => hne h.symm)) (r6.out (Nat.le_refl _) rfl) ⟨av, rfl, buf6.rd.frm put_frm fun y hy he => by have := (hA.sep y hy).1; omega⟩ fun y hy => ⟨by have := (hA.sep y hy).1; omega, by have := (hA.sep y hy).2; have : (w6.put aw.next [V.int .i64 1, V.str x.text, av]).next = w6.next := rfl; omega⟩
end Go.Proofs.Ytjidefnbancmfaa
