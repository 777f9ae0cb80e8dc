/- A part of the proof: PPar2, PPar3, PPar4, PPar5, PPar6, PPar7, PVal6. -/
import Derived.Test.YtegdcbdicpfbpaaGreatDoorSgK
import Derived.Test.YtegdcbdicpfbpaaGreatDoorSgG
set_option linter.unusedVariables false
set_option maxRecDepth 10000
set_option linter.unusedSimpArgs false
namespace Go.Proofs.YtegdcbdicpfbpaaGreatDoor
open Go.AE Delphi Val
variable {tab : Tab}
structure Dn {α : Type} (e : Nat) (r : α × Nat × Nat) (t : α) (k' e' : Nat) : Prop where
  bad : e ≠ 0 → e' = e
  same : e = 0 → e' = r.2.2
  fine : e = 0 → e' = 0 → k' = r.2.1 ∧ t = r.1
structure WsOk (ws : List Wd) : Prop where
  ok : ∀ x ∈ ws, WOk x
  num : ∀ x ∈ ws, x.kind = 3 → numT x.text = true
def Parses (tab : Tab) : Prop := ∀ s aw, numT s = true → s.length ≤ 16 → CallR tab n_strconv_ParseInt [.str s, .int .i64 10, .int .i64 64] aw (.tuple [.int .i64 (numV s), .niliface]) aw
theorem sterm_ok (C : Codes tab) (PI : Parses tab) {Tw : Nat → Prop} {bp k e : Nat} {wh : Bool} {v : V} {ws : List Wd} {aw : AW} {K : V → AW → Prop} (hp : PgS Tw aw bp ws v k wh e) (hT : ∀ x, Tw x → x < aw.next) (hok : WsOk ws)
    (h : ∀ w v' k' e' t, PgS Tw w bp ws v' k' wh e' → Frm (fun b => b = bp) aw w → Dn e (rTerm ws k 0) t k' e' → K (.agg (tmC t)) w) : WF tab n_syntax_parser_term [.ptr bp 0] aw K := by
  refine WF_of C.c_syntax_parser_term rfl ?_
  obtain ⟨w1, e1, c1, r1, m1⟩ := box1 aw [.int .i64 0, .str [], .int .i64 0]
  have hp1 := hp.frm0 r1
  have hbl := hp.cb.lt
  have hnb : ¬ aw.next = bp := by omega
  refine WS_run 1000 (by simp only [go_sem, eRun_exit, simprocAttr, k_syntax_parser_term_p0, k_syntax_parser_term_p1, k_syntax_parser_term_p2, k_syntax_parser_term_p3, k_syntax_parser_term_p4, k_syntax_parser_term_p5, k_syntax_parser_term_p6, k_syntax_parser_term_p7, k_syntax_parser_term_p8, k_syntax_parser_term_p10, k_syntax_parser_term, e1]; rfl) ?_
  refine WS_call (by simp only [go_sem, eRun_exit, simprocAttr]) (by simp only [go_sem, eRun_exit, simprocAttr]; rfl) ?_
  refine next_ok C hp1 (fun x hx => Nat.lt_of_lt_of_le (hT x hx) r1.next) hok.ok fun w2 v2 hp2 g2 => ?_
  obtain ⟨w3, s3, c3, r3, n3⟩ := boxed w2 (zs := [V.int .i64 0, V.str [], V.int .i64 0]) (vs := wdCells (peekW ws k e)) rfl rfl
  have hp3 := hp2.frm0 r3
  have a0 := CB.ld c3 0 1 _ rfl
  have a1 := CB.ld c3 1 1 _ rfl
  have n2 := g2.next
  have f3 : Frm (fun b => b = bp) aw w3 := (r1.no.tr g2).tr r3.no
  -- the end: the result's block written
  have fin : ∀ (w4 : AW) (t : Tm), Frm (fun b => b = bp) w3 w4 → ∃ w5, w4.store aw.next 0 (tmC t) = some w5 ∧ w5.load aw.next 0 3 = some (tmC t) ∧ Frm (fun b => b = bp) aw w5 ∧ Frm (fun b => b = aw.next) w4 w5 := by
    intro w4 t g4
    have c4 := (((c1.frm g2 hnb).frm r3 fun h => h).frm g4 hnb)
    refine ⟨_, c4.setAll (vs := tmC t) rfl rfl, (put_cb (l := tmC t) c4.lt).all (n := 3) rfl, ?_, put_frm⟩
    exact (f3.tr g4).out (Nat.le_refl _) rfl
  have sep : ∀ {w4 w5 : AW} {v4 : V} {k4 e4 : Nat}, PgS Tw w4 bp ws v4 k4 wh e4 → Frm (fun b => b = aw.next) w4 w5 → PgS Tw w5 bp ws v4 k4 wh e4 := fun h g => h.frm g (fun h => hnb h.symm) fun x hx he => by have := hT x hx; omega
  -- no term
  have no : ∀ {s : List SI} {fr : Fr}, (∀ k', Dn e (rTerm ws k 0) Tm.zero k' (rBad (nextE ws k e) 4)) → fr.get 0 = some (.ptr bp 0) → fr.get 2 = some (.ptr aw.next 0) →
      WS tab (.code k_syntax_parser_term_p9 :: s) fr w3 (fun fr' aw' => ∃ vs, resV fr' aw' k_syntax_parser_term.results = some vs ∧ K (resOne vs) aw') := by
    intro s fr hD f0 f2
    refine WS_run 1000 (by simp only [go_sem, eRun_exit, simprocAttr, k_syntax_parser_term_p9, f0, f2]; rfl) ?_
    refine WS_call (by simp only [go_sem, eRun_exit, simprocAttr]) (by simp only [go_sem, eRun_exit, simprocAttr]; rfl) ?_
    refine pfail_ok C (x := 4) hp3 fun w4 u1 u2 => ?_
    obtain ⟨w5, q1, q2, q3, q4⟩ := fin w4 Tm.zero u2
    have q1 : w4.store aw.next 0 [.int .i64 0, .str [], .int .i64 0] = some w5 := q1
    have q2 : w5.load aw.next 0 3 = some [.int .i64 0, .str [], .int .i64 0] := q2
    refine WS_run 1000 (by simp only [go_sem, eRun_exit, simprocAttr, f0, f2, evParts, fillV, List.length_cons, List.length_nil, q1]; rfl) ?_
    refine WS_ret ⟨_, by simp only [go_sem, eRun_exit, simprocAttr, k_syntax_parser_term, f2, q2]; rfl, ?_⟩
    exact h w5 v2 _ _ Tm.zero (sep u1 q4) q3 (hD _)
  cases hx : rNext ws k e with
  | none =>
    have hw : peekW ws k e = ⟨0, [], 0⟩ := by simp only [peekW, hx]; rfl
    have hk0 : (peekW ws k e).kind = 0 := by rw [hw]
    have hD : ∀ k', Dn e (rTerm ws k 0) Tm.zero k' (rBad (nextE ws k e) 4) := by
      intro k'
      have hE : rBad (nextE ws k e) 4 = rBad e 4 := by
        simp only [nextE, hx]
        show rBad (rBad e 4) 4 = rBad e 4
        unfold rBad; split <;> simp_all
      rw [hE]
      refine ⟨fun he => if_neg he, fun he => ?_, fun he h0 => ?_⟩
      · subst he
        simp only [rTerm, hx]
      · subst he; cases h0
    refine WS_runB 1000 (by simp only [go_sem, eRun_exit, simprocAttr, s3, wdCells_len, a0, hk0, k_syntax_parser_term_p0, k_syntax_parser_term_p1, k_syntax_parser_term_p2, k_syntax_parser_term_p3, k_syntax_parser_term_p4, k_syntax_parser_term_p5, k_syntax_parser_term_p6, k_syntax_parser_term_p7, k_syntax_parser_term_p8, k_syntax_parser_term_p10, k_syntax_parser_term]; rfl) ?_
    exact no hD (by simp only [go_sem, eRun_exit, simprocAttr] <;> rfl) (by simp only [go_sem, eRun_exit, simprocAttr] <;> rfl)
  | some x =>
    obtain ⟨hk, rfl, hgx⟩ := rNext_lt hx
    have hw : peekW ws k 0 = x := by simp only [peekW, hx]; rfl
    obtain ⟨x1, x2, x3, x4, x5⟩ := hok.ok x (List.mem_of_getElem? hgx)
    have hE : nextE ws k 0 = 0 := by simp only [nextE, hx]; rfl
    have hK : nextK ws k 0 = k + 1 := by simp only [nextK, hx]; rfl
    rw [hE, hK] at hp3
    rw [hw] at s3 c3 a0 a1
    rw [hw]
    by_cases hk2 : x.kind = 2
    · have hr : rTerm ws k 0 = (⟨1, x.text, 0⟩, k + 1, 0) := by
        simp only [rTerm, hx]
        rw [if_neg (by omega), if_neg (by omega), if_pos hk2]
      obtain ⟨w5, q1, q2, q3, q4⟩ := fin w3 ⟨1, x.text, 0⟩ (Frm.refl _)
      have q1 : w3.store aw.next 0 [.int .i64 1, .str x.text, .int .i64 0] = some w5 := q1
      have q2 : w5.load aw.next 0 3 = some [.int .i64 1, .str x.text, .int .i64 0] := q2
      refine WS_run 1000 (by simp only [go_sem, eRun_exit, simprocAttr, s3, wdCells_len, a0, a1, hk2, k_syntax_parser_term_p0, k_syntax_parser_term_p1, k_syntax_parser_term_p2, k_syntax_parser_term_p3, k_syntax_parser_term_p4, k_syntax_parser_term_p5, k_syntax_parser_term_p6, k_syntax_parser_term_p7, k_syntax_parser_term_p8, k_syntax_parser_term_p9, k_syntax_parser_term_p10, k_syntax_parser_term, evParts, fillV, over, List.length_cons, List.length_nil, q1]; rfl) ?_
      refine WS_ret ⟨_, by simp only [go_sem, eRun_exit, simprocAttr, k_syntax_parser_term, q2]; rfl, ?_⟩
      exact h w5 v2 _ _ ⟨1, x.text, 0⟩ (sep hp3 q4) q3 ⟨fun he => absurd rfl he, fun _ => by rw [hr], fun _ _ => by rw [hr]; exact ⟨rfl, rfl⟩⟩
    by_cases hk1 : x.kind = 1
    · have hr : rTerm ws k 0 = (⟨2, x.text, 0⟩, k + 1, 0) := by
        simp only [rTerm, hx]
        rw [if_neg (by omega), if_pos hk1]
      obtain ⟨w5, q1, q2, q3, q4⟩ := fin w3 ⟨2, x.text, 0⟩ (Frm.refl _)
      have q1 : w3.store aw.next 0 [.int .i64 2, .str x.text, .int .i64 0] = some w5 := q1
      have q2 : w5.load aw.next 0 3 = some [.int .i64 2, .str x.text, .int .i64 0] := q2
      refine WS_run 1000 (by simp only [go_sem, eRun_exit, simprocAttr, s3, wdCells_len, a0, a1, hk1, k_syntax_parser_term_p0, k_syntax_parser_term_p1, k_syntax_parser_term_p2, k_syntax_parser_term_p3, k_syntax_parser_term_p4, k_syntax_parser_term_p5, k_syntax_parser_term_p6, k_syntax_parser_term_p7, k_syntax_parser_term_p8, k_syntax_parser_term_p9, k_syntax_parser_term_p10, k_syntax_parser_term, evParts, fillV, over, List.length_cons, List.length_nil, q1]; rfl) ?_
      refine WS_ret ⟨_, by simp only [go_sem, eRun_exit, simprocAttr, k_syntax_parser_term, q2]; rfl, ?_⟩
      exact h w5 v2 _ _ ⟨2, x.text, 0⟩ (sep hp3 q4) q3 ⟨fun he => absurd rfl he, fun _ => by rw [hr], fun _ _ => by rw [hr]; exact ⟨rfl, rfl⟩⟩
    by_cases hk4 : x.kind = 4
    · have hr : rTerm ws k 0 = (Tm.zero, k, 4) := by
        simp only [rTerm, hx]
        rw [if_pos hk4]
      refine WS_runB 1000 (by simp only [go_sem, eRun_exit, simprocAttr, s3, wdCells_len, a0, hk4, k_syntax_parser_term_p0, k_syntax_parser_term_p1, k_syntax_parser_term_p2, k_syntax_parser_term_p3, k_syntax_parser_term_p4, k_syntax_parser_term_p5, k_syntax_parser_term_p6, k_syntax_parser_term_p7, k_syntax_parser_term_p8, k_syntax_parser_term_p10, k_syntax_parser_term]; rfl) ?_
      exact no (fun k' => ⟨fun he => absurd rfl he, fun _ => by rw [hr, hE]; rfl, fun _ h0 => by rw [hE] at h0; cases h0⟩) (by simp only [go_sem, eRun_exit, simprocAttr] <;> rfl) (by simp only [go_sem, eRun_exit, simprocAttr] <;> rfl)
    -- a number
    have hk3 : x.kind = 3 := by omega
    have hnT := hok.num x (List.mem_of_getElem? hgx) hk3
    have hl16 := x2 hk4
    have hr : rTerm ws k 0 = if 2147483648 < rNum x.text then (Tm.zero, k + 1, 4) else (⟨3, [], numV x.text⟩, k + 1, 0) := by
      simp only [rTerm, hx]
      rw [if_neg hk4, if_neg hk1, if_neg hk2]
      rfl
    refine WS_run 1000 (by simp only [go_sem, eRun_exit, simprocAttr, s3, wdCells_len, a0, a1, hk3, k_syntax_parser_term_p0, k_syntax_parser_term_p1, k_syntax_parser_term_p2, k_syntax_parser_term_p3, k_syntax_parser_term_p4, k_syntax_parser_term_p5, k_syntax_parser_term_p6, k_syntax_parser_term_p7, k_syntax_parser_term_p8, k_syntax_parser_term_p9, k_syntax_parser_term_p10, k_syntax_parser_term]; rfl) ?_
    refine WS_call (by simp only [go_sem, eRun_exit, simprocAttr]) (by simp only [go_sem, eRun_exit, simprocAttr]; rfl) ?_
    refine ⟨_, _, PI x.text w3 hnT hl16, ?_⟩
    obtain ⟨w6, s6, c6, r6, n6⟩ := boxed w3 (zs := [V.int .i64 0, V.str [], V.int .i64 0]) (vs := [V.int .i64 3, V.str [], V.int .i64 (numV x.text)]) rfl rfl
    have hp6 := hp3.frm0 r6
    have b6 := c6.all (n := 3) rfl
    have hee : eqV .iface .niliface .niliface = some true := rfl
    refine WS_run 1000 (by simp only [go_sem, eRun_exit, simprocAttr, evParts, fillV, over, List.length_cons, List.length_nil, s6, hee, b6]; rfl) ?_
    refine WS_call (by simp only [go_sem, eRun_exit, simprocAttr]) (by simp only [go_sem, eRun_exit, simprocAttr]; rfl) ?_
    refine may_ok C (t := ⟨3, [], numV x.text⟩) ⟨by simp, by simp⟩ fun w7 g7 => ?_
    have hp7 := hp6.frm0 g7
    have f37 : Frm (fun _ => False) w3 w7 := r6.tr g7
    have b7 := (c6.frm g7 fun h => h).all (n := 3) rfl
    have hm : tkMay ⟨3, [], numV x.text⟩ = decide (¬ 2147483648 < rNum x.text) := by
      have e0 : tkMay ⟨3, [], numV x.text⟩ = (decide (([] : List Nat) = []) && (decide (-2147483648 ≤ numV x.text) && decide (numV x.text ≤ 2147483648))) := rfl
      rw [e0]
      simp only [decide_true, Bool.true_and]
      unfold numV
      by_cases hb : 2147483648 < rNum x.text
      · have e9 : decide (¬ 2147483648 < rNum x.text) = false := decide_eq_false fun h => h hb
        rw [e9]
        split
        · have e8 : decide (-2147483648 ≤ -(rNum x.text : Int)) = false := decide_eq_false (by omega)
          rw [e8, Bool.false_and]
        · have e8 : decide ((rNum x.text : Int) ≤ 2147483648) = false := decide_eq_false (by omega)
          rw [e8, Bool.and_false]
      · have e9 : decide (¬ 2147483648 < rNum x.text) = true := decide_eq_true hb
        rw [e9]
        split
        · have e8 : decide (-2147483648 ≤ -(rNum x.text : Int)) = true := decide_eq_true (by omega)
          have e7 : decide (-(rNum x.text : Int) ≤ 2147483648) = true := decide_eq_true (by omega)
          rw [e8, e7]; rfl
        · have e8 : decide (-2147483648 ≤ (rNum x.text : Int)) = true := decide_eq_true (by omega)
          have e7 : decide ((rNum x.text : Int) ≤ 2147483648) = true := decide_eq_true (by omega)
          rw [e8, e7]; rfl
    rw [hm]
    by_cases hb : 2147483648 < rNum x.text
    · rw [if_pos hb] at hr
      rw [show decide (¬ 2147483648 < rNum x.text) = false from decide_eq_false fun h => h hb]
      refine WS_run 1000 (by simp only [go_sem, eRun_exit, simprocAttr]; rfl) ?_
      refine WS_call (by simp only [go_sem, eRun_exit, simprocAttr]) (by simp only [go_sem, eRun_exit, simprocAttr]; rfl) ?_
      refine pfail_ok C (x := 4) hp7 fun w8 u1 u2 => ?_
      have b8 := ((c6.frm g7 fun h => h).frm u2 (by have := r3.next; omega)).all (n := 3) rfl
      obtain ⟨w5, q1, q2, q3, q4⟩ := fin w8 ⟨3, [], numV x.text⟩ (f37.no.tr u2)
      have q1 : w8.store aw.next 0 [.int .i64 3, .str [], .int .i64 (numV x.text)] = some w5 := q1
      have q2 : w5.load aw.next 0 3 = some [.int .i64 3, .str [], .int .i64 (numV x.text)] := q2
      refine WS_run 1000 (by simp only [go_sem, eRun_exit, simprocAttr, b8, List.length_cons, List.length_nil, q1]; rfl) ?_
      refine WS_ret ⟨_, by simp only [go_sem, eRun_exit, simprocAttr, k_syntax_parser_term, q2]; rfl, ?_⟩
      exact h w5 v2 _ _ ⟨3, [], numV x.text⟩ (sep u1 q4) q3 ⟨fun he => absurd rfl he, fun _ => by rw [hr]; rfl, fun _ h0 => by cases h0⟩
    · rw [if_neg hb] at hr
      rw [decide_eq_true hb]
      obtain ⟨w5, q1, q2, q3, q4⟩ := fin w7 ⟨3, [], numV x.text⟩ f37.no
      have q1 : w7.store aw.next 0 [.int .i64 3, .str [], .int .i64 (numV x.text)] = some w5 := q1
      have q2 : w5.load aw.next 0 3 = some [.int .i64 3, .str [], .int .i64 (numV x.text)] := q2
      refine WS_run 1000 (by simp only [go_sem, eRun_exit, simprocAttr, b7, List.length_cons, List.length_nil, q1]; rfl) ?_
      refine WS_ret ⟨_, by simp only [go_sem, eRun_exit, simprocAttr, k_syntax_parser_term, q2]; rfl, ?_⟩
      exact h w5 v2 _ _ ⟨3, [], numV x.text⟩ (sep hp7 q4) q3 ⟨fun he => absurd rfl he, fun _ => by rw [hr], fun _ _ => by rw [hr]; exact ⟨rfl, rfl⟩⟩
theorem ssign_ok (C : Codes tab) {x : Wd} {aw : AW} {K : V → AW → Prop} (h : ∀ w, Frm (fun _ => False) aw w → K (.int .i64 (Int.ofNat (if x.kind = 4 then rCompare x.text else 0))) w) : WF tab n_syntax_sign [.agg (wdCells x)] aw K := by
  refine WF_of C.c_syntax_sign rfl ?_
  obtain ⟨w1, e1, c1, r1, m1⟩ := box1 aw (wdCells x)
  have a0 := CB.ld c1 0 1 _ rfl
  have a1 := CB.ld c1 1 1 _ rfl
  have h := h w1 r1
  have hcl : V.cells (.agg (wdCells x)) = wdCells x := rfl
  by_cases h4 : x.kind = 4
  case neg =>
    rw [if_neg h4] at h
    refine WS_run 1000 (by simp only [go_sem, eRun_exit, simprocAttr, k_syntax_sign_p0, k_syntax_sign_p1, k_syntax_sign_p2, k_syntax_sign_p3, k_syntax_sign_p4, k_syntax_sign_p5, k_syntax_sign_p6, k_syntax_sign_p7, k_syntax_sign_p8, k_syntax_sign, hcl, e1, a0, h4]; rfl) ?_
    refine WS_ret ⟨_, by simp only [go_sem, eRun_exit, simprocAttr, k_syntax_sign]; rfl, ?_⟩
    exact h
  rw [if_pos h4] at h
  unfold rCompare at h
  by_cases h1 : x.text = [61]
  · rw [if_pos h1] at h
    refine WS_run 1000 (by simp only [go_sem, eRun_exit, simprocAttr, k_syntax_sign_p0, k_syntax_sign_p1, k_syntax_sign_p2, k_syntax_sign_p3, k_syntax_sign_p4, k_syntax_sign_p5, k_syntax_sign_p6, k_syntax_sign_p7, k_syntax_sign_p8, k_syntax_sign, hcl, e1, a0, a1, h4, strS, eqLd, h1]; rfl) ?_
    refine WS_ret ⟨_, by simp only [go_sem, eRun_exit, simprocAttr, k_syntax_sign]; rfl, ?_⟩
    exact h
  rw [if_neg h1] at h
  by_cases h2 : x.text = [33, 61]
  · rw [if_pos h2] at h
    refine WS_run 1000 (by simp only [go_sem, eRun_exit, simprocAttr, k_syntax_sign_p0, k_syntax_sign_p1, k_syntax_sign_p2, k_syntax_sign_p3, k_syntax_sign_p4, k_syntax_sign_p5, k_syntax_sign_p6, k_syntax_sign_p7, k_syntax_sign_p8, k_syntax_sign, hcl, e1, a0, a1, h4, strS, eqLd, h1, h2]; rfl) ?_
    refine WS_ret ⟨_, by simp only [go_sem, eRun_exit, simprocAttr, k_syntax_sign]; rfl, ?_⟩
    exact h
  rw [if_neg h2] at h
  by_cases h3 : x.text = [60]
  · rw [if_pos h3] at h
    refine WS_run 1000 (by simp only [go_sem, eRun_exit, simprocAttr, k_syntax_sign_p0, k_syntax_sign_p1, k_syntax_sign_p2, k_syntax_sign_p3, k_syntax_sign_p4, k_syntax_sign_p5, k_syntax_sign_p6, k_syntax_sign_p7, k_syntax_sign_p8, k_syntax_sign, hcl, e1, a0, a1, h4, strS, eqLd, h1, h2, h3]; rfl) ?_
    refine WS_ret ⟨_, by simp only [go_sem, eRun_exit, simprocAttr, k_syntax_sign]; rfl, ?_⟩
    exact h
  rw [if_neg h3] at h
  by_cases h5 : x.text = [60, 61]
  · rw [if_pos h5] at h
    refine WS_run 1000 (by simp only [go_sem, eRun_exit, simprocAttr, k_syntax_sign_p0, k_syntax_sign_p1, k_syntax_sign_p2, k_syntax_sign_p3, k_syntax_sign_p4, k_syntax_sign_p5, k_syntax_sign_p6, k_syntax_sign_p7, k_syntax_sign_p8, k_syntax_sign, hcl, e1, a0, a1, h4, strS, eqLd, h1, h2, h3, h5]; rfl) ?_
    refine WS_ret ⟨_, by simp only [go_sem, eRun_exit, simprocAttr, k_syntax_sign]; rfl, ?_⟩
    exact h
  · rw [if_neg h5] at h
    refine WS_run 1000 (by simp only [go_sem, eRun_exit, simprocAttr, k_syntax_sign_p0, k_syntax_sign_p1, k_syntax_sign_p2, k_syntax_sign_p3, k_syntax_sign_p4, k_syntax_sign_p5, k_syntax_sign_p6, k_syntax_sign_p7, k_syntax_sign_p8, k_syntax_sign, hcl, e1, a0, a1, h4, strS, eqLd, h1, h2, h3, h5]; rfl) ?_
    refine WS_ret ⟨_, by simp only [go_sem, eRun_exit, simprocAttr, k_syntax_sign]; rfl, ?_⟩
    exact h
end Go.Proofs.YtegdcbdicpfbpaaGreatDoor
set_option linter.unusedVariables false
set_option maxRecDepth 10000
set_option linter.unusedSimpArgs false
namespace Go.Proofs.YtegdcbdicpfbpaaGreatDoor
open Go.AE Delphi Val
variable {tab : Tab}
structure SA (Tw : Nat → Prop) (aw w : AW) (bp lb : Nat) (ws : List Wd) (wh : Bool) (txt : List Nat) (args : List Tm) (k e : Nat) (v av : V) (S : Nat → Prop) : Prop where
  p : PgS Tw w bp ws v k wh e
  frm : Frm (fun b => b = bp) aw w
  res : CB w aw.next [.int .i64 0, .str [], .nilslice]
  lit : CB w lb [.int .i64 1, .str txt, av]
  buf : Buf S w av 3 args.length (tmsC args)
  sep : ∀ x, S x → aw.next < x ∧ x < w.next ∧ x ≠ lb
  lbn : aw.next < lb
structure SAF (f : Fr) (bp n0 lb : Nat) : Prop where
  f0 : f.get 0 = some (.ptr bp 0)
  f2 : f.get 2 = some (.ptr n0 0)
  f4 : f.get 4 = some (.ptr lb 0)
def SArgI (Tw : Nat → Prop) (aw : AW) (bp lb : Nat) (ws : List Wd) (wh : Bool) (txt : List Nat) (fin : List Tm × Nat × Nat) (q : Nat) (f : Fr) (w : AW) : Prop :=
  ∃ args k v av S, SAF f bp aw.next lb ∧ SA Tw aw w bp lb ws wh txt args k 0 v av S ∧ args.length ≤ 4 ∧ ws.length + 1 ≤ q + k ∧ rArgs ws q args k 0 = fin
def SArgJ (Tw : Nat → Prop) (aw : AW) (bp lb : Nat) (ws : List Wd) (wh : Bool) (txt : List Nat) (fin : List Tm × Nat × Nat) (f : Fr) (w : AW) : Prop :=
  ∃ args k e v av S, SAF f bp aw.next lb ∧ SA Tw aw w bp lb ws wh txt args k e v av S ∧ args.length ≤ 5 ∧ fin.2.2 = e ∧ (e = 0 → k = fin.2.1 ∧ args = fin.1)
theorem sarg_step (C : Codes tab) (PI : Parses tab) {Tw : Nat → Prop} {aw w : AW} {bp lb : Nat} {ws : List Wd} {wh : Bool} {txt : List Nat} {fin : List Tm × Nat × Nat} {q : Nat} {f : Fr} {s : List SI} {Q : Fr → AW → Prop} (hok : WsOk ws) (hT : ∀ x, Tw x → x < aw.next) (hlt : bp < aw.next)
    (hI : SArgI Tw aw bp lb ws wh txt fin q f w) (ih : ∀ n' f' w', n' < q → SArgI Tw aw bp lb ws wh txt fin n' f' w' → WS tab (.code (.loop k_syntax_parser_atom_p5) :: .endB 0 :: s) f' w' Q)
    (out : ∀ s' f' w', SArgJ Tw aw bp lb ws wh txt fin f' w' → popTo 0 s' = some s → WS tab (.code (.exit 0) :: s') f' w' Q) : WS tab (.code k_syntax_parser_atom_p5 :: .code (.loop k_syntax_parser_atom_p5) :: .endB 0 :: s) f w Q := by
  obtain ⟨args, k, v, av, S, ⟨f0, f2, f4⟩, hA, hl4, hq, hfin⟩ := hI
  have hk := hA.p.kle
  obtain ⟨q, rfl⟩ : ∃ q', q = q' + 1 := ⟨q - 1, by omega⟩
  have nx := hA.frm.next
  have hlbn := hA.lbn
  have hlb : lb < w.next := hA.lit.lt
  have hnb : ¬ lb = bp := by omega
  have hn0 : ¬ aw.next = bp := by omega
  have la : w.load lb 2 1 = some [av] := CB.ld hA.lit 2 1 _ rfl
  refine WS_run 1000 (by simp only [go_sem, eRun_exit, simprocAttr, k_syntax_parser_atom_p5, k_syntax_parser_atom_p4]; rfl) ?_
  refine WS_drawn ?_
  refine WDs_run 100 (by simp only [go_sem, eRun_exit, simprocAttr, f4, f0, la]; rfl) ?_
  refine WDs_call (by simp only [go_sem, eRun_exit, simprocAttr]) (by simp only [go_sem, eRun_exit, simprocAttr]; rfl) ?_
  refine sterm_ok C PI hA.p (fun x hx => Nat.lt_of_lt_of_le (hT x hx) nx) hok fun w1 v1 k1 e1 t p1 g1 hD => ?_
  have hk1 := p1.kle
  have lit1 := hA.lit.frm g1 hnb
  have la1 : w1.load lb 2 1 = some [av] := CB.ld lit1 2 1 _ rfl
  have nS : ∀ x, S x → ¬ x = bp := fun x hx he => by have := (hA.sep x hx).1; omega
  have buf1 := hA.buf.frm g1 nS
  have res1 := hA.res.frm g1 hn0
  have n1 := g1.next
  have hf1 : Frm (fun _ => False) w1 (w1.fresh (tmC t)) := fresh_frm _ _
  have lit1' := lit1.frm hf1 fun h => h
  have la1' : (w1.fresh (tmC t)).load lb 2 1 = some [av] := CB.ld lit1' 2 1 _ rfl
  obtain ⟨av', w5, S5, a1, a2, a3, a4⟩ := buf1.push (news := tmC t) (bytes := 32) (fun b hb => by have := (hA.sep b hb).2.1; omega) (by omega) rfl rfl (by omega) (by omega)
  have hel : (w1.fresh (tmC t)).elems 3 (.slice w1.next 0 1 (.known 1)) = some (1, tmC t) := elems_fresh (by omega) rfl
  have nlit : ¬ S lb := fun h => (hA.sep _ h).2.2 rfl
  have nres : ¬ S aw.next := fun h => by have := (hA.sep _ h).1; omega
  have nbp : ¬ S bp := fun h => by have := (hA.sep _ h).1; omega
  have lit5 := lit1.frm a3 nlit
  have vone : av'.one = true := by rcases a2.inv with ⟨rfl, _⟩ | ⟨_, rfl, _⟩ <;> rfl
  have vc : av'.cells = [av'] := by rcases a2.inv with ⟨rfl, _⟩ | ⟨_, rfl, _⟩ <;> rfl
  have st := lit5.set (i := 2) (v := av') (by simp) vone
  have st : w5.store lb 2 [av'] = some (w5.put lb [.int .i64 1, .str txt, av']) := st
  have pf : Frm (fun b => b = lb) w5 (w5.put lb [.int .i64 1, .str txt, av']) := put_frm
  have hov : over [V.int .i64 0, V.str [], V.int .i64 0] 0 (tmC t) = some (tmC t) := rfl
  have sep5 : ∀ x, S5 x → aw.next < x ∧ x < w5.next ∧ x ≠ lb := by
    intro x hx
    obtain ⟨m1, m2⟩ := a4 x hx
    rcases m2 with m2 | m2
    · have := hA.sep x m2; exact ⟨this.1, m1, this.2.2⟩
    · exact ⟨by omega, m1, by omega⟩
  have n5 := a3.next
  have hA5 : SA Tw aw (w5.put lb [.int .i64 1, .str txt, av']) bp lb ws wh txt (args ++ [t]) k1 e1 v1 av' S5 := by
    refine ⟨(p1.frm a3 nbp fun x hx h => by have := hT x hx; have := (hA.sep x h).1; omega).frm pf (fun h => hnb h.symm) fun x hx he => by have := hT x hx; omega, ?_, (res1.frm a3 nres).frm pf (by omega), put_cb lit5.lt, ?_, sep5, hlbn⟩
    · exact ((hA.frm.tr g1).trans a3 (fun _ _ h => h) fun x hx h => by have := (hA.sep x h).1; omega).trans pf (fun _ _ h => h) fun x hx he => by omega
    · rw [List.length_append, tmsC_snoc]
      exact a2.frm pf fun x hx he => (sep5 x hx).2.2 he
  have hl5 : (args ++ [t]).length = args.length + 1 := by simp
  refine WDs_run 100 (by simp only [go_sem, eRun_exit, simprocAttr, f4, tmC_len, evParts, fillV, hov, List.length_cons, List.length_nil, hel, a1, st, vc]; rfl) ?_
  refine WDs_nil ⟨(show chkAll _ _ [(1, 3), (1, 4)] from by simp only [go_sem, eRun_exit, simprocAttr, chkAll, chk, List.reverse_cons, List.reverse_nil, mkStp_fe, mkStp_v, mkStp_0, mkStp_1, List.getElem?_nil, false_or, or_true, or_false, exists_eq', Option.some.injEq, Prod.mk.injEq, Bool.true_eq_false, Bool.false_eq_true, and_true, true_and, implies_true,  f4, la, la1, la1']), ?_⟩
  have hlv := hA5.buf.lenV
  have l2 : (w5.put lb [.int .i64 1, .str txt, av']).load lb 2 1 = some [av'] := CB.ld hA5.lit 2 1 _ rfl
  generalize w5.put lb [.int .i64 1, .str txt, av'] = w6 at *
  rw [hl5] at hlv
  -- what the reference does
  have hE1 : e1 = (rTerm ws k 0).2.2 := hD.same rfl
  obtain ⟨e2, he2⟩ : ∃ e2, e2 = if e1 = 0 ∧ args.length = 4 then 8 else e1 := ⟨_, rfl⟩
  have hfin2 : fin = if rSign ws (rTerm ws k 0).2.1 [44] = true then rArgs ws q (args ++ [(rTerm ws k 0).1]) ((rTerm ws k 0).2.1 + 1) e2 else (args ++ [(rTerm ws k 0).1], (rTerm ws k 0).2.1, e2) := by
    rw [← hfin, he2, hE1]
    simp only [rArgs, if_true]
  have he20 : e2 = 0 → e1 = 0 ∧ args.length ≠ 4 := by
    intro h
    rw [h] at he2
    by_cases hc : e1 = 0 ∧ args.length = 4
    · rw [if_pos hc] at he2; omega
    · rw [if_neg hc] at he2
      exact ⟨he2.symm, fun h => hc ⟨he2.symm, h⟩⟩
  have hbadF : e2 ≠ 0 → fin.2.2 = e2 := by
    intro h
    rw [hfin2]
    split
    · rw [rArgs_stop h]
    · rfl
  have hgk := rTerm_ge ws k 0
  -- what is left: is there a comma?
  have rest : ∀ {w7 : AW} {fr : Fr}, SA Tw aw w7 bp lb ws wh txt (args ++ [t]) k1 e2 v1 av' S5 → SAF fr bp aw.next lb →
      WS tab (.code (.seq (.region [⟨some 32, none, .mov (.tmp 0)⟩, ⟨some 33, none, .call (.const (.func (.func n_syntax_parser_take) [] [])) [(.tmp 32), (.const (.str [44]))]⟩, ⟨some 34, none, .un .not (.tmp 33)⟩]) (.cond (.tmp 34) (.exit 0) .skip)) :: .endB 1 :: .code (.loop k_syntax_parser_atom_p5) :: .endB 0 :: s) fr w7 Q := by
    rintro w7 fr hA7 ⟨f0, f2, f4⟩
    refine WS_run 1000 (by simp only [go_sem, eRun_exit, simprocAttr, f0]; rfl) ?_
    refine WS_call (by simp only [go_sem, eRun_exit, simprocAttr]) (by simp only [go_sem, eRun_exit, simprocAttr]; rfl) ?_
    refine ptake_ok C hA7.p (fun x hx => Nat.lt_of_lt_of_le (hT x hx) hA7.frm.next) fun w8 v8 p8 g8 => ?_
    have nS5 : ∀ x, S5 x → ¬ x = bp := fun x hx he => by have := (sep5 x hx).1; omega
    have n8 := g8.next
    have hA8 : SA Tw aw w8 bp lb ws wh txt (args ++ [t]) (if pSign ws k1 e2 [44] = true then k1 + 1 else k1) e2 v8 av' S5 :=
      ⟨p8, hA7.frm.tr g8, hA7.res.frm g8 hn0, hA7.lit.frm g8 hnb, hA7.buf.frm g8 nS5, fun x hx => ⟨(hA7.sep x hx).1, by have := (hA7.sep x hx).2.1; omega, (hA7.sep x hx).2.2⟩, hlbn⟩
    cases hs : pSign ws k1 e2 [44] with
    | false =>
      rw [hs, if_neg (by simp)] at hA8
      refine WS_runB 1000 (by simp only [go_sem, simprocAttr]; rfl) ?_
      refine out _ _ _ ⟨args ++ [t], k1, e2, v8, av', S5, ⟨(by simp only [go_sem, eRun_exit, simprocAttr, f0] <;> rfl), (by simp only [go_sem, eRun_exit, simprocAttr, f2] <;> rfl), (by simp only [go_sem, eRun_exit, simprocAttr, f4] <;> rfl)⟩, hA8, by omega, ?_, ?_⟩ rfl
      · by_cases h0 : e2 = 0
        · subst h0
          have h10 : e1 = 0 := (he20 rfl).1
          obtain ⟨d1, d2⟩ := hD.fine rfl h10
          rw [pSign_0, d1] at hs
          rw [hfin2, if_neg (by rw [hs]; simp)]
        · exact hbadF h0
      · intro h0
        subst h0
        have h10 : e1 = 0 := (he20 rfl).1
        obtain ⟨d1, d2⟩ := hD.fine rfl h10
        rw [pSign_0, d1] at hs
        rw [hfin2, if_neg (by rw [hs]; simp), d1, d2]
        exact ⟨rfl, rfl⟩
    | true =>
      rw [hs, if_pos rfl] at hA8
      obtain ⟨hkl, h0, hs'⟩ := pSign_lt hs
      subst h0
      obtain ⟨h10, h4⟩ := he20 rfl
      obtain ⟨d1, d2⟩ := hD.fine rfl h10
      rw [d1] at hs'
      rw [if_pos hs', ← d1, ← d2] at hfin2
      refine WS_run 1000 (by simp only [go_sem, eRun_exit, simprocAttr]; rfl) ?_
      exact ih q _ _ (by omega) ⟨args ++ [t], k1 + 1, v8, av', S5, ⟨(by simp only [go_sem, eRun_exit, simprocAttr, f0] <;> rfl), (by simp only [go_sem, eRun_exit, simprocAttr, f2] <;> rfl), (by simp only [go_sem, eRun_exit, simprocAttr, f4] <;> rfl)⟩, hA8, by omega, by omega, hfin2.symm⟩
  by_cases h5 : args.length + 1 > 4
  · have h4 : args.length = 4 := by omega
    rw [h4] at hlv
    refine WS_run 1000 (by simp only [go_sem, eRun_exit, simprocAttr, k_syntax_parser_atom_p3, k_syntax_parser_atom_p2, f0, f4, l2, hlv]; rfl) ?_
    refine WS_call (by simp only [go_sem, eRun_exit, simprocAttr]) (by simp only [go_sem, eRun_exit, simprocAttr]; rfl) ?_
    refine pfail_ok C (x := 8) hA5.p fun w7 u1 u2 => ?_
    have h8 : rBad e1 8 = e2 := by
      rw [he2]; unfold rBad
      by_cases h0 : e1 = 0
      · rw [if_pos h0, if_pos ⟨h0, h4⟩]
      · rw [if_neg h0, if_neg (fun h => h0 h.1)]
    rw [h8] at u1
    have n7 := u2.next
    have hA7 : SA Tw aw w7 bp lb ws wh txt (args ++ [t]) k1 e2 v1 av' S5 :=
      ⟨u1, hA5.frm.tr u2, hA5.res.frm u2 hn0, hA5.lit.frm u2 hnb, hA5.buf.frm u2 (fun x hx he => by have := (sep5 x hx).1; omega), fun x hx => ⟨(hA5.sep x hx).1, by have := (hA5.sep x hx).2.1; omega, (hA5.sep x hx).2.2⟩, hlbn⟩
    refine WS_runB 1 (by simp only [go_sem, eRun_exit, simprocAttr]; rfl) ?_
    exact rest hA7 ⟨(by simp only [go_sem, eRun_exit, simprocAttr, f0] <;> rfl), (by simp only [go_sem, eRun_exit, simprocAttr, f2] <;> rfl), (by simp only [go_sem, eRun_exit, simprocAttr, f4] <;> rfl)⟩
  · have h4 : ¬ args.length = 4 := by omega
    rw [if_neg (fun h => h4 h.2)] at he2
    subst he2
    refine WS_runB 10 (by simp only [go_sem, eRun_exit, simprocAttr, k_syntax_parser_atom_p3, f4, l2, hlv, h5]; rfl) ?_
    exact rest hA5 ⟨(by simp only [go_sem, eRun_exit, simprocAttr, f0] <;> rfl), (by simp only [go_sem, eRun_exit, simprocAttr, f2] <;> rfl), (by simp only [go_sem, eRun_exit, simprocAttr, f4] <;> rfl)⟩
end Go.Proofs.YtegdcbdicpfbpaaGreatDoor
set_option linter.unusedVariables false
set_option maxRecDepth 10000
set_option linter.unusedSimpArgs false
namespace Go.Proofs.YtegdcbdicpfbpaaGreatDoor
open Go.AE Delphi Val
variable {tab : Tab}
theorem satom_ok (C : Codes tab) (PI : Parses tab) {Tw : Nat → Prop} {bp k e : Nat} {wh : Bool} {v : V} {ws : List Wd} {aw : AW} {K : V → AW → Prop} (hp : PgS Tw aw bp ws v k wh e) (hT : ∀ x, Tw x → x < aw.next) (hok : WsOk ws)
    (h : ∀ w v' k' e' T l xs, PgS Tw w bp ws v' k' wh e' → Frm (fun b => b = bp) aw w → Dn e (rAtom ws k 0) l k' e' → LtC T w l xs → l.args.length ≤ 5 → (∀ x, T x → aw.next ≤ x ∧ x < w.next) → K (.agg xs) w) : WF tab n_syntax_parser_atom [.ptr bp 0] aw K := by
  refine WF_of C.c_syntax_parser_atom rfl ?_
  obtain ⟨w1, e1, c1, r1, m1⟩ := box1 aw [.int .i64 0, .str [], .nilslice]
  have hp1 := hp.frm0 r1
  have hbl := hp.cb.lt
  have hnb : ¬ aw.next = bp := by omega
  have hT1 : ∀ x, Tw x → x < w1.next := fun x hx => Nat.lt_of_lt_of_le (hT x hx) r1.next
  refine WS_run 1000 (by simp only [go_sem, eRun_exit, simprocAttr, k_syntax_parser_atom, k_syntax_parser_atom_p9, e1]; rfl) ?_
  refine WS_call (by simp only [go_sem, eRun_exit, simprocAttr]) (by simp only [go_sem, eRun_exit, simprocAttr]; rfl) ?_
  refine next_ok C hp1 hT1 hok.ok fun w2 v2 hp2 g2 => ?_
  obtain ⟨w3, s3, c3, r3, n3⟩ := boxed w2 (zs := [V.int .i64 0, V.str [], V.int .i64 0]) (vs := wdCells (peekW ws k e)) rfl rfl
  have hp3 := hp2.frm0 r3
  have a0 := CB.ld c3 0 1 _ rfl
  have n2 := g2.next
  have f3 : Frm (fun b => b = bp) aw w3 := (r1.no.tr g2).tr r3.no
  have res3 : CB w3 aw.next [.int .i64 0, .str [], .nilslice] := (c1.frm g2 hnb).frm r3 fun h => h
  have hn2 : ¬ w2.next = bp := by omega
  obtain ⟨x, hx⟩ : ∃ x, x = peekW ws k e := ⟨_, rfl⟩
  rw [← hx] at s3 c3 a0
  rw [← hx]
  -- the end: the result's block written
  have fin : ∀ (w4 : AW) (xs : List V), Frm (fun b => b = bp) w3 w4 → xs.length = 3 → allOne xs = true → ∃ w5, w4.store aw.next 0 xs = some w5 ∧ w5.load aw.next 0 3 = some xs ∧ Frm (fun b => b = bp) aw w5 ∧ Frm (fun b => b = aw.next) w4 w5 := by
    intro w4 xs g4 hl h1
    have c4 := res3.frm g4 hnb
    refine ⟨_, c4.setAll (vs := xs) (by simpa using hl.symm) h1, (put_cb (l := xs) c4.lt).all (n := 3) hl, (f3.tr g4).out (Nat.le_refl _) rfl, put_frm⟩
  have sep : ∀ {w4 w5 : AW} {v4 : V} {k4 e4 : Nat}, PgS Tw w4 bp ws v4 k4 wh e4 → Frm (fun b => b = aw.next) w4 w5 → PgS Tw w5 bp ws v4 k4 wh e4 := fun h g => h.frm g (fun h => hnb h.symm) fun x hx he => by have := hT x hx; omega
  -- from the atom's name on
  have cont : ∀ {s : List SI} {fr : Fr} {w4 : AW} {v4 : V} {k1 e1 : Nat}, PgS Tw w4 bp ws v4 k1 wh e1 → Frm (fun b => b = bp) w3 w4 → fr.get 0 = some (.ptr bp 0) → fr.get 2 = some (.ptr aw.next 0) → fr.get 3 = some (.ptr w2.next 0) →
      (e1 ≠ 0 → ∀ k', Dn e (rAtom ws k 0) ⟨1, x.text, []⟩ k' e1) → (e1 = 0 → e = 0 ∧ k1 = k + 1 ∧ rNext ws k 0 = some x ∧ x.kind = 1) →
      WS tab (.code k_syntax_parser_atom_p8 :: s) fr w4 (fun fr' aw' => ∃ vs, resV fr' aw' k_syntax_parser_atom.results = some vs ∧ K (resOne vs) aw') := by
    intro s fr w4 v4 k1 e1 p4 g4 f0 f2 f3' hbad hgood
    have c34 := c3.frm g4 hn2
    have a1 := CB.ld c34 1 1 _ rfl
    obtain ⟨w5, s5, c5, r5, n5⟩ := boxed w4 (zs := [V.int .i64 0, V.str [], V.nilslice]) (vs := [V.int .i64 1, V.str x.text, V.nilslice]) rfl rfl
    have p5 := p4.frm0 r5
    have n4 := g4.next
    have g5 : Frm (fun b => b = bp) w3 w5 := g4.tr r5.no
    refine WS_run 1000 (by simp only [go_sem, eRun_exit, simprocAttr, k_syntax_parser_atom_p8, k_syntax_parser_atom_p7, f0, f2, f3', a1, evParts, fillV, over, s5, List.length_cons, List.length_nil]; rfl) ?_
    refine WS_call (by simp only [go_sem, eRun_exit, simprocAttr]) (by simp only [go_sem, eRun_exit, simprocAttr]; rfl) ?_
    refine ptake_ok C p5 (fun y hy => by have := hT y hy; omega) fun w6 v6 p6 g6 => ?_
    have hn4 : ¬ w4.next = bp := by omega
    have c6 := c5.frm g6 hn4
    have g36 : Frm (fun b => b = bp) w3 w6 := g5.tr g6
    have n6 := g6.next
    cases hs : pSign ws k1 e1 [40] with
    | false =>
      rw [hs, if_neg (by simp)] at p6
      have b6 := c6.all (n := 3) rfl
      obtain ⟨w7, q1, q2, q3, q4⟩ := fin w6 [V.int .i64 1, V.str x.text, V.nilslice] g36 rfl rfl
      refine WS_run 1000 (by simp only [go_sem, eRun_exit, simprocAttr, k_syntax_parser_atom_p1, f2, b6, q1, List.length_cons, List.length_nil]; rfl) ?_
      refine WS_ret ⟨_, by simp only [go_sem, eRun_exit, simprocAttr, k_syntax_parser_atom, f2, q2]; rfl, ?_⟩
      refine h w7 v6 k1 e1 (fun _ => False) ⟨1, x.text, []⟩ _ (sep p6 q4) q3 ?_ ⟨.nilslice, rfl, .nil⟩ (by simp) fun _ h => h.elim
      by_cases h0 : e1 = 0
      · obtain ⟨rfl, rfl, hnx, hk1⟩ := hgood h0
        subst h0
        rw [pSign_0] at hs
        have hr : rAtom ws k 0 = (⟨1, x.text, []⟩, k + 1, 0) := by
          simp only [rAtom, hnx]
          rw [if_pos hk1, hs, if_neg (by simp)]
        exact ⟨fun he => absurd rfl he, fun _ => by rw [hr], fun _ _ => by rw [hr]; exact ⟨rfl, rfl⟩⟩
      · exact hbad h0 _
    | true =>
      rw [hs, if_pos rfl] at p6
      obtain ⟨hkl, rfl, hs'⟩ := pSign_lt hs
      obtain ⟨rfl, rfl, hnx, hk1⟩ := hgood rfl
      refine WS_run 1000 (by simp only [go_sem, eRun_exit, simprocAttr, f2]; rfl) ?_
      have hlw : w4.next < w5.next := by omega
      refine WS_loopJ (SArgI Tw aw bp w4.next ws wh x.text (rArgs ws (ws.length + 1) [] (k + 2) 0)) (SArgJ Tw aw bp w4.next ws wh x.text (rArgs ws (ws.length + 1) [] (k + 2) 0)) (fun n f w hI ih out => sarg_step C PI hok hT hbl hI ih out) ?_ (ws.length + 1)
        ⟨[], k + 2, v6, .nilslice, fun _ => False, ⟨(by simp only [go_sem, eRun_exit, simprocAttr, f0] <;> rfl), (by simp only [go_sem, eRun_exit, simprocAttr, f2] <;> rfl), (by simp only [go_sem, eRun_exit, simprocAttr] <;> rfl)⟩, ⟨p6, f3.tr g36, res3.frm g36 hnb, c6, .nil, fun _ h => h.elim, by omega⟩, by simp, by omega, rfl⟩
      rintro f w ⟨args, k5, e5, v5, av, S, ⟨f0, f2, f4⟩, hA, hl5, hfe, hfk⟩
      refine WS_run 1000 (by simp only [go_sem, eRun_exit, simprocAttr, k_syntax_parser_atom_p6, f0]; rfl) ?_
      refine WS_call (by simp only [go_sem, eRun_exit, simprocAttr]) (by simp only [go_sem, eRun_exit, simprocAttr]; rfl) ?_
      refine must_ok C hA.p (fun y hy => Nat.lt_of_lt_of_le (hT y hy) hA.frm.next) fun w8 v8 p8 g8 => ?_
      have hlb : ¬ w4.next = bp := hn4
      have lit8 := hA.lit.frm g8 hlb
      have buf8 := hA.buf.frm g8 fun y hy he => by have := (hA.sep y hy).1; omega
      have b8 := lit8.all (n := 3) rfl
      have aone : allOne [V.int .i64 1, V.str x.text, av] = true := by rcases hA.buf.inv with ⟨rfl, _⟩ | ⟨_, rfl, _⟩ <;> rfl
      have res8 := hA.res.frm g8 hnb
      have hst := res8.setAll (vs := [V.int .i64 1, V.str x.text, av]) rfl aone
      have hrl := (put_cb (l := [V.int .i64 1, V.str x.text, av]) res8.lt).all (n := 3) rfl
      have pf : Frm (fun b => b = aw.next) w8 (w8.put aw.next [V.int .i64 1, V.str x.text, av]) := put_frm
      refine WS_run 1000 (by simp only [go_sem, eRun_exit, simprocAttr, f2, f4, b8, hst, List.length_cons, List.length_nil]; rfl) ?_
      refine WS_ret ⟨_, by simp only [go_sem, eRun_exit, simprocAttr, k_syntax_parser_atom, f2, hrl]; rfl, ?_⟩
      refine h _ v8 _ _ S ⟨1, x.text, args⟩ _ (sep p8 pf) ((hA.frm.tr g8).out (Nat.le_refl _) rfl) ?_ ⟨av, rfl, buf8.rd.frm pf fun y hy he => by have := (hA.sep y hy).1; omega⟩ hl5 fun y hy => ⟨by have := (hA.sep y hy).1; omega, by have := (hA.sep y hy).2.1; have := g8.next; have : (w8.put aw.next [V.int .i64 1, V.str x.text, av]).next = w8.next := rfl; omega⟩
      have hr : rAtom ws k 0 = (⟨1, x.text, (rArgs ws (ws.length + 1) [] (k + 2) 0).1⟩, (rEat ws [41] (rArgs ws (ws.length + 1) [] (k + 2) 0).2.1 (rArgs ws (ws.length + 1) [] (k + 2) 0).2.2).1, (rEat ws [41] (rArgs ws (ws.length + 1) [] (k + 2) 0).2.1 (rArgs ws (ws.length + 1) [] (k + 2) 0).2.2).2) := by
        simp only [rAtom, hnx]
        rw [if_pos hk1, hs', if_pos rfl]
      generalize rArgs ws (ws.length + 1) [] (k + 2) 0 = ra at hr hfe hfk
      obtain ⟨args', k', e'⟩ := ra
      simp only at hr hfe hfk
      subst hfe
      by_cases h0 : e' = 0
      · subst h0
        obtain ⟨rfl, rfl⟩ := hfk rfl
        exact ⟨fun he => absurd rfl he, fun _ => by rw [hr], fun _ _ => by rw [hr]; exact ⟨rfl, rfl⟩⟩
      · have hE : ∀ k'', rEat ws [41] k'' e' = (k'', e') := fun k'' => by unfold rEat; rw [if_neg h0]
        rw [hE] at hr
        rw [hE]
        exact ⟨fun he => absurd rfl he, fun _ => by rw [hr], fun _ he => absurd he h0⟩
  cases hnx : rNext ws k e with
  | none =>
    have hw : x = ⟨0, [], 0⟩ := by rw [hx]; simp only [peekW, hnx]; rfl
    have hk0 : ¬ x.kind = 1 := by rw [hw]; simp
    refine WS_run 1000 (by simp only [go_sem, eRun_exit, simprocAttr, k_syntax_parser_atom_p0, s3, wdCells_len, a0, hk0]; rfl) ?_
    refine WS_call (by simp only [go_sem, eRun_exit, simprocAttr]) (by simp only [go_sem, eRun_exit, simprocAttr]; rfl) ?_
    refine pfail_ok C (x := 4) hp3 fun w4 u1 u2 => ?_
    refine WS_runB 1000 (by simp only [go_sem, eRun_exit, simprocAttr]; rfl) ?_
    have hE : rBad (nextE ws k e) 4 = rBad e 4 := by
      simp only [nextE, hnx]
      show rBad (rBad e 4) 4 = rBad e 4
      unfold rBad; split <;> simp_all
    rw [hE] at u1
    have hb : rBad e 4 ≠ 0 := by unfold rBad; split <;> simp_all
    refine cont u1 u2 (by simp only [go_sem, eRun_exit, simprocAttr] <;> rfl) (by simp only [go_sem, eRun_exit, simprocAttr] <;> rfl) (by simp only [go_sem, eRun_exit, simprocAttr] <;> rfl) (fun _ k' => ?_) fun h => absurd h hb
    refine ⟨fun he => if_neg he, fun he => ?_, fun he h0 => absurd h0 hb⟩
    subst he
    simp only [rAtom, hnx]
  | some y =>
    obtain ⟨hk, rfl, hgx⟩ := rNext_lt hnx
    have hw : x = y := by rw [hx]; simp only [peekW, hnx]; rfl
    subst hw
    have hE : nextE ws k 0 = 0 := by simp only [nextE, hnx]; rfl
    have hK : nextK ws k 0 = k + 1 := by simp only [nextK, hnx]; rfl
    rw [hE, hK] at hp3
    by_cases hk1 : x.kind = 1
    · refine WS_runB 1000 (by simp only [go_sem, eRun_exit, simprocAttr, s3, wdCells_len, a0, hk1]; rfl) ?_
      exact cont hp3 (Frm.refl _) (by simp only [go_sem, eRun_exit, simprocAttr] <;> rfl) (by simp only [go_sem, eRun_exit, simprocAttr] <;> rfl) (by simp only [go_sem, eRun_exit, simprocAttr] <;> rfl) (fun h => absurd rfl h) fun _ => ⟨rfl, rfl, hnx, hk1⟩
    · refine WS_run 1000 (by simp only [go_sem, eRun_exit, simprocAttr, k_syntax_parser_atom_p0, s3, wdCells_len, a0, hk1]; rfl) ?_
      refine WS_call (by simp only [go_sem, eRun_exit, simprocAttr]) (by simp only [go_sem, eRun_exit, simprocAttr]; rfl) ?_
      refine pfail_ok C (x := 4) hp3 fun w4 u1 u2 => ?_
      refine WS_runB 1000 (by simp only [go_sem, eRun_exit, simprocAttr]; rfl) ?_
      refine cont u1 u2 (by simp only [go_sem, eRun_exit, simprocAttr] <;> rfl) (by simp only [go_sem, eRun_exit, simprocAttr] <;> rfl) (by simp only [go_sem, eRun_exit, simprocAttr] <;> rfl) (fun _ k' => ⟨fun he => absurd rfl he, fun _ => ?_, fun _ h0 => by cases h0⟩) fun h => by cases h
      simp only [rAtom, hnx]
      rw [if_neg hk1]; rfl
end Go.Proofs.YtegdcbdicpfbpaaGreatDoor
set_option linter.unusedVariables false
set_option maxRecDepth 10000
set_option linter.unusedSimpArgs false
namespace Go.Proofs.YtegdcbdicpfbpaaGreatDoor
open Go.AE Delphi Val
variable {tab : Tab}
def cmpW (x : Wd) : Nat := if x.kind = 4 then rCompare x.text else 0
theorem peek_kind {ws : List Wd} {k : Nat} : (peekW ws k 0).kind = rKind ws k := by
  simp only [peekW, rNext, rKind, if_true]
  cases ws[k]? <;> rfl
theorem peek_cmp {ws : List Wd} {k : Nat} : cmpW (peekW ws k 0) = rCmpAt ws k := by
  simp only [cmpW, peekW, rNext, rCmpAt, if_true]
  cases ws[k]? <;> rfl
theorem peek_ne {ws : List Wd} {k e : Nat} (h : e ≠ 0) : peekW ws k e = ⟨0, [], 0⟩ := by
  simp only [peekW, rNext]; rw [if_neg h]; rfl
theorem nextE_ne {ws : List Wd} {k e : Nat} (h : e ≠ 0) : nextE ws k e = e := by
  simp [nextE, rNext, h, rBad]
theorem slit_ok (C : Codes tab) (PI : Parses tab) {Tw : Nat → Prop} {bp k e : Nat} {wh : Bool} {v : V} {ws : List Wd} {aw : AW} {K : V → AW → Prop} (hp : PgS Tw aw bp ws v k wh e) (hT : ∀ x, Tw x → x < aw.next) (hok : WsOk ws)
    (h : ∀ w v' k' e' T l xs, PgS Tw w bp ws v' k' wh e' → Frm (fun b => b = bp) aw w → Dn e (rLit ws k 0) l k' e' → LtC T w l xs → l.args.length ≤ 5 → (∀ x, T x → aw.next ≤ x ∧ x < w.next) → K (.agg xs) w) : WF tab n_syntax_parser_literal [.ptr bp 0] aw K := by
  refine WF_of C.c_syntax_parser_literal rfl ?_
  obtain ⟨w1, e1, c1, r1, m1⟩ := box1 aw [.int .i64 0, .str [], .nilslice]
  have hp1 := hp.frm0 r1
  have hbl := hp.cb.lt
  have hnb : ¬ aw.next = bp := by omega
  have hT1 : ∀ {w}, Frm (fun b => b = bp) aw w → ∀ x, Tw x → x < w.next := fun g x hx => Nat.lt_of_lt_of_le (hT x hx) g.next
  have sep : ∀ {w4 w5 : AW} {v4 : V} {k4 e4 : Nat}, PgS Tw w4 bp ws v4 k4 wh e4 → Frm (fun b => b = aw.next) w4 w5 → PgS Tw w5 bp ws v4 k4 wh e4 := fun h g => h.frm g (fun h => hnb h.symm) fun x hx he => by have := hT x hx; omega
  refine WS_run 1000 (by simp only [go_sem, eRun_exit, simprocAttr, k_syntax_parser_literal, e1]; rfl) ?_
  refine WS_call (by simp only [go_sem, eRun_exit, simprocAttr]) (by simp only [go_sem, eRun_exit, simprocAttr]; rfl) ?_
  refine ptake_ok C hp1 (hT1 r1.no) fun w2 v2 p2 g2 => ?_
  have f2' : Frm (fun b => b = bp) aw w2 := r1.no.tr g2
  have res2 := c1.frm g2 hnb
  cases hs : pSign ws k e [33] with
  | true =>
    rw [hs, if_pos rfl] at p2
    obtain ⟨hkl, rfl, hs'⟩ := pSign_lt hs
    refine WS_run 1000 (by simp only [go_sem, eRun_exit, simprocAttr, k_syntax_parser_literal_p0]; rfl) ?_
    refine WS_call (by simp only [go_sem, eRun_exit, simprocAttr]) (by simp only [go_sem, eRun_exit, simprocAttr]; rfl) ?_
    refine satom_ok C PI p2 (hT1 f2') hok fun w3 v3 k3 e3 T l xs q1 q2 hD q3 ql q4 => ?_
    obtain ⟨xl, xo⟩ := q3.one
    obtain ⟨av, rfl, hv⟩ := q3
    have f3 := f2'.tr q2
    obtain ⟨w4, s4, c4, r4, n4⟩ := boxed w3 (zs := [V.int .i64 0, V.str [], V.nilslice]) (vs := [.int .i64 (Int.ofNat l.kind), .str l.name, av]) rfl xo
    have st := c4.set (i := 0) (v := .int .i64 2) (by simp) rfl
    have st : w4.store w3.next 0 [.int .i64 2] = some (w4.put w3.next [.int .i64 2, .str l.name, av]) := st
    have f34 : Frm (fun _ => False) w3 (w4.put w3.next [.int .i64 2, .str l.name, av]) := r4.out (Nat.le_refl _) rfl
    have la := (put_cb (l := [.int .i64 2, .str l.name, av]) c4.lt).all (n := 3) rfl
    have vone : allOne [V.int .i64 2, .str l.name, av] = true := xo
    have cr := (res2.frm q2 hnb).frm f34 fun h => h
    have hst := cr.setAll (vs := [V.int .i64 2, .str l.name, av]) rfl vone
    have hrl := (put_cb (l := [V.int .i64 2, .str l.name, av]) cr.lt).all (n := 3) rfl
    have n2 := f2'.next
    have n3 := f3.next
    have n34 := f34.next
    generalize w4.put w3.next [.int .i64 2, .str l.name, av] = w5 at *
    have pf : Frm (fun b => b = aw.next) w5 (w5.put aw.next [.int .i64 2, .str l.name, av]) := put_frm
    refine WS_run 1000 (by simp only [go_sem, eRun_exit, simprocAttr, s4, st, la, hst, List.length_cons, List.length_nil]; rfl) ?_
    refine WS_ret ⟨_, by simp only [go_sem, eRun_exit, simprocAttr, k_syntax_parser_literal, hrl]; rfl, ?_⟩
    refine h _ v3 k3 e3 T { l with kind := 2 } _ (sep (q1.frm0 f34) pf) ((f3.tr f34.no).out (Nat.le_refl _) rfl) ?_ ⟨av, rfl, (hv.frm f34 fun _ _ h => h).frm pf fun y hy he => by have := (q4 y hy).1; have := r1.next; have := g2.next; omega⟩ ql fun y hy => ⟨by have := (q4 y hy).1; omega, by have := (q4 y hy).2; have : (w5.put aw.next [.int .i64 2, .str l.name, av]).next = w5.next := rfl; omega⟩
    have hr : rLit ws k 0 = ({ (rAtom ws (k + 1) 0).1 with kind := 2 }, (rAtom ws (k + 1) 0).2.1, (rAtom ws (k + 1) 0).2.2) := by
      simp only [rLit]; rw [if_pos hs']
    refine ⟨fun he => absurd rfl he, fun _ => by rw [hr]; exact hD.same rfl, fun _ h0 => ?_⟩
    obtain ⟨d1, d2⟩ := hD.fine rfl h0
    rw [hr]; exact ⟨d1, by rw [d2]⟩
  | false =>
  rw [hs, if_neg (by simp)] at p2
  -- a term, a sign, a term
  have termP : ∀ {s : List SI} {fr : Fr} {w3 : AW}, Frm (fun _ => False) w2 w3 → (e = 0 → ¬ (rKind ws k = 1 ∧ rCmpAt ws (k + 1) = 0)) → fr.get 0 = some (.ptr bp 0) → fr.get 2 = some (.ptr aw.next 0) → fr.get 24 = some (.ptr bp 0) →
      WS tab (.ops [⟨some 25, none, .call (.const (.func (.func n_syntax_parser_term) [] [])) [(.tmp 24)]⟩, ⟨some 4, none, .alloc [(.int .i64 0), (.str []), (.int .i64 0)]⟩, ⟨none, none, .store 3 (.tmp 4) (.tmp 25)⟩] :: .code k_syntax_parser_literal_p4 :: s) fr w3 (fun fr' aw' => ∃ vs, resV fr' aw' k_syntax_parser_literal.results = some vs ∧ K (resOne vs) aw') := by
    intro s fr w3 g3 hna f0 f2 f24
    have p3 := p2.frm0 g3
    have h3 : Frm (fun b => b = bp) aw w3 := f2'.tr g3.no
    refine WS_call (by simp only [wanted_none]) (by simp only [go_sem, f24]; rfl) ?_
    refine sterm_ok C PI p3 (hT1 h3) hok fun w4 v4 k1 e1 t1 p4 g4 hD1 => ?_
    obtain ⟨w5, s5, c5, r5, n5⟩ := boxed w4 (zs := [V.int .i64 0, V.str [], V.int .i64 0]) (vs := tmC t1) rfl rfl
    have p5 := p4.frm0 r5
    have h5 : Frm (fun b => b = bp) aw w5 := (h3.tr g4).tr r5.no
    have n4 := (h3.tr g4).next
    refine WS_run 1000 (by simp only [go_sem, eRun_exit, simprocAttr, s5, tmC_len, k_syntax_parser_literal_p4, f0]; rfl) ?_
    refine WS_call (by simp only [go_sem, eRun_exit, simprocAttr]) (by simp only [go_sem, eRun_exit, simprocAttr]; rfl) ?_
    refine next_ok C p5 (hT1 h5) hok.ok fun w6 v6 p6 g6 => ?_
    have h6 := h5.tr g6
    have hb4 : ¬ w4.next = bp := by omega
    have c6 := c5.frm g6 hb4
    refine WS_run 1000 (by simp only [go_sem, eRun_exit, simprocAttr]; rfl) ?_
    refine WS_call (by simp only [go_sem, eRun_exit, simprocAttr]) (by simp only [go_sem, eRun_exit, simprocAttr]; rfl) ?_
    refine ssign_ok C fun w7 g7 => ?_
    have p7 := p6.frm0 g7
    have h7 : Frm (fun b => b = bp) aw w7 := h6.tr g7.no
    have c7 := c6.frm g7 fun h => h
    have hcw : (if (peekW ws k1 e1).kind = 4 then rCompare (peekW ws k1 e1).text else 0) = cmpW (peekW ws k1 e1) := rfl
    rw [hcw]
    generalize hkd : cmpW (peekW ws k1 e1) = kd
    have hk1 := p5.kle
    -- from the second term on
    have rest : ∀ {s : List SI} {fr : Fr} {w8 : AW} {v8 : V} {k2 e2 : Nat}, PgS Tw w8 bp ws v8 k2 wh e2 → Frm (fun b => b = bp) w7 w8 → fr.get 0 = some (.ptr bp 0) → fr.get 2 = some (.ptr aw.next 0) → fr.get 4 = some (.ptr w4.next 0) → fr.get 5 = some (.int .i64 (Int.ofNat kd)) →
        (∀ t2 k3 e3, Dn e2 (rTerm ws k2 0) t2 k3 e3 → Dn e (rLit ws k 0) ⟨kd, [], [t1, t2]⟩ k3 e3) →
        WS tab (.code k_syntax_parser_literal_p3 :: s) fr w8 (fun fr' aw' => ∃ vs, resV fr' aw' k_syntax_parser_literal.results = some vs ∧ K (resOne vs) aw') := by
      intro s fr w8 v8 k2 e2 p8 g8 f0 f2 f4 f5 hfin
      have h8 := h7.tr g8
      have c8 := c7.frm g8 hb4
      have b8 := c8.all (n := 3) rfl
      refine WS_run 1000 (by simp only [go_sem, eRun_exit, simprocAttr, k_syntax_parser_literal_p3]; rfl) ?_
      refine WS_drawn ?_
      refine WDs_run 100 (by simp only [go_sem, eRun_exit, simprocAttr, f0, f2, f4, f5, b8]; rfl) ?_
      refine WDs_call (by simp only [go_sem, eRun_exit, simprocAttr]) (by simp only [go_sem, eRun_exit, simprocAttr]; rfl) ?_
      refine sterm_ok C PI p8 (hT1 h8) hok fun w9 v9 k3 e3 t2 p9 g9 hD2 => ?_
      have h9 := h8.tr g9
      have c9 := c8.frm g9 hb4
      have b9 := c9.all (n := 3) rfl
      have hov1 : over [V.int .i64 0, V.str [], V.int .i64 0, V.int .i64 0, V.str [], V.int .i64 0] 0 (tmC t1) = some (tmC t1 ++ [V.int .i64 0, V.str [], V.int .i64 0]) := rfl
      have hov2 : over (tmC t1 ++ [V.int .i64 0, V.str [], V.int .i64 0]) 3 (tmC t2) = some (tmsC [t1, t2]) := rfl
      have p10 := p9.frm (fresh_frm (S := fun _ => False) w9 (tmsC [t1, t2])) (fun h => h) fun _ _ h => h
      have c10 := fresh_cb w9 (tmsC [t1, t2])
      have h10 : Frm (fun b => b = bp) aw (w9.fresh (tmsC [t1, t2])) := h9.tr (fresh_frm _ _)
      have n9 := h9.next
      have n19 : w1.next ≤ w9.next := (((((((g2.tr g3.no).tr g4).tr r5.no).tr g6).tr g7.no).tr g8).tr g9).next
      have cr := ((((((((res2.frm g3 fun h => h).frm g4 hnb).frm r5 fun h => h).frm g6 hnb).frm g7 fun h => h).frm g8 hnb).frm g9 hnb).frm (fresh_frm (S := fun _ => False) w9 (tmsC [t1, t2])) fun h => h)
      have hst := cr.setAll (vs := [V.int .i64 (Int.ofNat kd), .str [], .slice w9.next 0 2 (.known 2)]) rfl rfl
      have hrl := (put_cb (l := [V.int .i64 (Int.ofNat kd), .str [], .slice w9.next 0 2 (.known 2)]) cr.lt).all (n := 3) rfl
      refine WDs_run 100 (by simp only [go_sem, eRun_exit, simprocAttr, f2, f4, f5, tmC_len, evParts, fillV, hov1, hov2, over, List.length_cons, List.length_nil, hst]; rfl) ?_
      refine WDs_nil ⟨(show chkAll _ _ [(1, 3)] from by simp only [go_sem, eRun_exit, simprocAttr, chkAll, chk, List.reverse_cons, List.reverse_nil, mkStp_fe, mkStp_v, mkStp_0, mkStp_1, List.getElem?_nil, false_or, or_true, or_false, exists_eq', Option.some.injEq, Prod.mk.injEq, Bool.true_eq_false, Bool.false_eq_true, and_true, true_and, implies_true,  f4, b8, b9]), ?_⟩
      refine WS_ret ⟨_, by simp only [go_sem, eRun_exit, simprocAttr, k_syntax_parser_literal, f2, hrl]; rfl, ?_⟩
      have pf : Frm (fun b => b = aw.next) (w9.fresh (tmsC [t1, t2])) ((w9.fresh (tmsC [t1, t2])).put aw.next [V.int .i64 (Int.ofNat kd), .str [], .slice w9.next 0 2 (.known 2)]) := put_frm
      refine h _ v9 k3 e3 (fun y => y = w9.next) ⟨kd, [], [t1, t2]⟩ _ (sep p10 pf) (h10.out (Nat.le_refl _) rfl) (hfin t2 k3 e3 hD2) ⟨_, rfl, (tms_of (T := fun y => y = w9.next) rfl c10).frm pf fun y hy he => by omega⟩ (by simp) fun y hy => ?_
      subst hy
      exact ⟨n9, Nat.lt_succ_self _⟩
    by_cases hkz : kd = 0
    · subst hkz
      refine WS_run 1000 (by simp only [go_sem, eRun_exit, simprocAttr, k_syntax_parser_literal_p2, f0]; rfl) ?_
      refine WS_call (by simp only [go_sem, eRun_exit, simprocAttr]) (by simp only [go_sem, eRun_exit, simprocAttr]; rfl) ?_
      refine pfail_ok C (x := 4) p7 fun w8 u1 u2 => ?_
      refine WS_runB 1000 (by simp only [go_sem, eRun_exit, simprocAttr]; rfl) ?_
      refine rest u1 u2 (by simp only [go_sem, eRun_exit, simprocAttr, f0] <;> rfl) (by simp only [go_sem, eRun_exit, simprocAttr, f2] <;> rfl) (by simp only [go_sem, eRun_exit, simprocAttr] <;> rfl) (by simp only [go_sem, eRun_exit, simprocAttr] <;> rfl) ?_
      intro t2 k3 e3 hD2
      have hne : rBad (nextE ws k1 e1) 4 ≠ 0 := by unfold rBad; split <;> simp_all
      have h3 : e3 = rBad (nextE ws k1 e1) 4 := hD2.bad hne
      have h3' : e3 = rBad e1 4 := by
        rw [h3]
        by_cases h0 : e1 = 0
        · subst h0
          unfold nextE
          split <;> rfl
        · rw [nextE_ne h0]
      refine ⟨fun he => ?_, fun he => ?_, fun _ h0 => ?_⟩
      · rw [h3', hD1.bad he]; exact if_neg he
      · subst he
        have ha := hD1.same rfl
        have hc : ((rTerm ws k 0).2.2 ≠ 0 ∨ rCmpAt ws (rTerm ws k 0).2.1 = 0) := by
          by_cases h0 : e1 = 0
          · right
            rw [← (hD1.fine rfl h0).1, ← peek_cmp]
            subst h0; exact hkd
          · left; rw [← ha]; exact h0
        rw [pSign_0] at hs
        have hr : rLit ws k 0 = (Lt.zero, (rTerm ws k 0).2.1, rBad (rTerm ws k 0).2.2 4) := by
          simp only [rLit]
          rw [hs, if_neg (by simp), if_neg (hna rfl), if_pos hc]
        rw [hr, h3', ha]
      · rw [h3] at h0; exact absurd h0 hne
    · -- it is a comparison
      have h10 : e1 = 0 := by
        by_cases h0 : e1 = 0
        · exact h0
        · rw [peek_ne h0] at hkd; exact absurd hkd.symm hkz
      subst h10
      have he0 : e = 0 := by
        by_cases h0 : e = 0
        · exact h0
        · have := hD1.bad h0; omega
      subst he0
      rw [peek_cmp] at hkd
      have hlt := rCmpAt_lt (ws := ws) (k := k1) (by rw [hkd]; exact hkz)
      have hnx : (rNext ws k1 0).isSome = true := by simp only [rNext, if_true]; rw [List.getElem?_eq_getElem hlt]; rfl
      have hE : nextE ws k1 0 = 0 := by unfold nextE; rw [if_pos hnx]
      have hK : nextK ws k1 0 = k1 + 1 := by unfold nextK; rw [if_pos hnx]
      rw [hE, hK] at p7
      obtain ⟨d1, d2⟩ := hD1.fine rfl rfl
      have ha := hD1.same rfl
      refine WS_runB 1000 (by simp only [go_sem, eRun_exit, simprocAttr, hkz]; rfl) ?_
      refine rest p7 (Frm.refl _) (by simp only [go_sem, eRun_exit, simprocAttr, f0] <;> rfl) (by simp only [go_sem, eRun_exit, simprocAttr, f2] <;> rfl) (by simp only [go_sem, eRun_exit, simprocAttr] <;> rfl) (by simp only [go_sem, eRun_exit, simprocAttr] <;> rfl) ?_
      intro t2 k3 e3 hD2
      rw [pSign_0] at hs
      have hc : ¬ ((rTerm ws k 0).2.2 ≠ 0 ∨ rCmpAt ws (rTerm ws k 0).2.1 = 0) := by
        rintro (hh | hh)
        · exact hh ha.symm
        · rw [← d1, hkd] at hh; exact hkz hh
      have hr : rLit ws k 0 = (⟨rCmpAt ws (rTerm ws k 0).2.1, [], [(rTerm ws k 0).1, (rTerm ws ((rTerm ws k 0).2.1 + 1) (rTerm ws k 0).2.2).1]⟩, (rTerm ws ((rTerm ws k 0).2.1 + 1) (rTerm ws k 0).2.2).2.1, (rTerm ws ((rTerm ws k 0).2.1 + 1) (rTerm ws k 0).2.2).2.2) := by
        simp only [rLit]
        rw [hs, if_neg (by simp), if_neg (hna rfl), if_neg hc]
      rw [← ha, ← d1, ← d2, hkd] at hr
      refine ⟨fun he => absurd rfl he, fun _ => by rw [hr]; exact hD2.same rfl, fun _ h0 => ?_⟩
      obtain ⟨d3, d4⟩ := hD2.fine rfl h0
      rw [hr]; exact ⟨d3, by rw [d4]⟩
  refine WS_run 1000 (by simp only [go_sem, eRun_exit, simprocAttr, k_syntax_parser_literal_p5]; rfl) ?_
  refine WS_call (by simp only [go_sem, eRun_exit, simprocAttr]) (by simp only [go_sem, eRun_exit, simprocAttr]; rfl) ?_
  refine peek_ok C (j := 0) p2 fun w3 g3 => ?_
  rw [Nat.add_zero]
  have hfl : ∀ x : Wd, partV (wdCells x) 0 1 false = some (.int .i64 (Int.ofNat x.kind)) := fun x => rfl
  have p3 := p2.frm0 g3
  by_cases hk1 : (peekW ws k e).kind = 1
  case neg =>
    refine WS_run 1000 (by simp only [go_sem, eRun_exit, simprocAttr, hfl, hk1]; rfl) ?_
    refine termP g3 (fun he => ?_) (by simp only [go_sem, eRun_exit, simprocAttr] <;> rfl) (by simp only [go_sem, eRun_exit, simprocAttr] <;> rfl) (by simp only [go_sem, eRun_exit, simprocAttr] <;> rfl)
    subst he
    rw [← peek_kind]
    exact fun h => hk1 h.1
  have he : e = 0 := by
    by_cases h0 : e = 0
    · exact h0
    · rw [peek_ne h0] at hk1; cases hk1
  subst he
  refine WS_run 1000 (by simp only [go_sem, eRun_exit, simprocAttr, hfl, hk1]; rfl) ?_
  refine WS_call (by simp only [go_sem, eRun_exit, simprocAttr]) (by simp only [go_sem, eRun_exit, simprocAttr]; rfl) ?_
  refine peek_ok C (j := 1) p3 fun w4 g4 => ?_
  have p4 := p3.frm0 g4
  refine WS_run 1000 (by simp only [go_sem, eRun_exit, simprocAttr]; rfl) ?_
  refine WS_call (by simp only [go_sem, eRun_exit, simprocAttr]) (by simp only [go_sem, eRun_exit, simprocAttr]; rfl) ?_
  refine ssign_ok C fun w5 g5 => ?_
  have p5 := p4.frm0 g5
  have hcw : (if (peekW ws (k + 1) 0).kind = 4 then rCompare (peekW ws (k + 1) 0).text else 0) = cmpW (peekW ws (k + 1) 0) := rfl
  rw [hcw, peek_cmp]
  have g25 : Frm (fun _ => False) w2 w5 := (g3.tr g4).tr g5
  by_cases hz : rCmpAt ws (k + 1) = 0
  case neg =>
    refine WS_run 1000 (by simp only [go_sem, eRun_exit, simprocAttr, hz]; rfl) ?_
    exact termP g25 (fun _ h => hz h.2) (by simp only [go_sem, eRun_exit, simprocAttr] <;> rfl) (by simp only [go_sem, eRun_exit, simprocAttr] <;> rfl) (by simp only [go_sem, eRun_exit, simprocAttr] <;> rfl)
  rw [hz]
  refine WS_run 1000 (by simp only [go_sem, eRun_exit, simprocAttr, k_syntax_parser_literal_p1]; rfl) ?_
  refine WS_call (by simp only [go_sem, eRun_exit, simprocAttr]) (by simp only [go_sem, eRun_exit, simprocAttr]; rfl) ?_
  have f5 : Frm (fun b => b = bp) aw w5 := f2'.tr g25.no
  refine satom_ok C PI p5 (hT1 f5) hok fun w6 v6 k6 e6 T l xs q1 q2 hD q3 ql q4 => ?_
  obtain ⟨xl, xo⟩ := q3.one
  have cr := ((res2.frm g25 fun h => h).frm q2 hnb)
  have hst := cr.setAll (vs := xs) (by rw [xl]; rfl) xo
  have hrl := (put_cb (l := xs) cr.lt).all (n := 3) xl
  have pf : Frm (fun b => b = aw.next) w6 (w6.put aw.next xs) := put_frm
  have n5 := f5.next
  refine WS_run 1000 (by simp only [go_sem, eRun_exit, simprocAttr, xl, hst]; rfl) ?_
  refine WS_ret ⟨_, by simp only [go_sem, eRun_exit, simprocAttr, k_syntax_parser_literal, hrl]; rfl, ?_⟩
  refine h _ v6 k6 e6 T l _ (sep q1 pf) ((f5.tr q2).out (Nat.le_refl _) rfl) ?_ (q3.frm pf fun y hy he => by have := (q4 y hy).1; have := r1.next; have := g2.next; have := g25.next; omega) ql fun y hy => ⟨by have := (q4 y hy).1; omega, by have := (q4 y hy).2; have : (w6.put aw.next xs).next = w6.next := rfl; omega⟩
  rw [pSign_0] at hs
  have hr : rLit ws k 0 = rAtom ws k 0 := by
    simp only [rLit]; rw [hs, if_neg (by simp), if_pos ⟨by rw [← peek_kind]; exact hk1, hz⟩]
  rw [hr]; exact hD
end Go.Proofs.YtegdcbdicpfbpaaGreatDoor
set_option linter.unusedVariables false
set_option maxRecDepth 10000
set_option linter.unusedSimpArgs false
namespace Go.Proofs.YtegdcbdicpfbpaaGreatDoor
open Go.AE Delphi Val
variable {tab : Tab}
structure SB (Tw : Nat → Prop) (a w : AW) (bp rb : Nat) (ws : List Wd) (wh : Bool) (hd : Lt) (hv : V) (body : List Lt) (k e : Nat) (v bv : V) (S T : Nat → Prop) (xss : List (List V)) : Prop where
  p : PgS Tw w bp ws v k wh e
  frm : Frm (fun b => b = bp) a w
  res : CB w a.next [.int .i64 0, .str [], .nilslice, .nilslice]
  rule : CB w rb [.int .i64 (Int.ofNat hd.kind), .str hd.name, hv, bv]
  head : Rd T w hv 3 hd.args.length (tmsC hd.args)
  buf : Buf S w bv 3 body.length xss.flatten
  lits : All2 (LtC T w) body xss
  sepS : ∀ x, S x → a.next < x ∧ x < w.next ∧ x ≠ rb ∧ ¬ T x
  sepT : ∀ x, T x → a.next < x ∧ x < w.next ∧ x ≠ rb
  rbn : a.next < rb
structure SBF (f : Fr) (bp n0 rb : Nat) : Prop where
  f0 : f.get 0 = some (.ptr bp 0)
  f2 : f.get 2 = some (.ptr n0 0)
  f3 : f.get 3 = some (.ptr rb 0)
def SBodI (Tw : Nat → Prop) (a : AW) (bp rb : Nat) (ws : List Wd) (wh : Bool) (hd : Lt) (hv : V) (fin : List Lt × Nat × Nat) (q : Nat) (f : Fr) (w : AW) : Prop :=
  ∃ body k v bv S T xss, SBF f bp a.next rb ∧ SB Tw a w bp rb ws wh hd hv body k 0 v bv S T xss ∧ body.length ≤ 6 ∧ ws.length + 1 ≤ q + k ∧ rBody ws q body k 0 = fin
def SBodJ (Tw : Nat → Prop) (a : AW) (bp rb : Nat) (ws : List Wd) (wh : Bool) (hd : Lt) (hv : V) (fin : List Lt × Nat × Nat) (f : Fr) (w : AW) : Prop :=
  ∃ body k e v bv S T xss, SBF f bp a.next rb ∧ SB Tw a w bp rb ws wh hd hv body k e v bv S T xss ∧ body.length ≤ 7 ∧ fin.2.2 = e ∧ (e = 0 → k = fin.2.1 ∧ body = fin.1)
theorem SB.step {Tw : Nat → Prop} {a w w' : AW} {bp rb : Nat} {ws : List Wd} {wh : Bool} {hd : Lt} {hv : V} {body : List Lt} {k e k' e' : Nat} {v v' bv : V} {S T : Nat → Prop} {xss : List (List V)} (h : SB Tw a w bp rb ws wh hd hv body k e v bv S T xss) (hb : bp < a.next) (hp : PgS Tw w' bp ws v' k' wh e') (g : Frm (fun b => b = bp) w w') : SB Tw a w' bp rb ws wh hd hv body k' e' v' bv S T xss := by
  have hr := h.rbn
  have n := g.next
  have nS : ∀ x, S x → ¬ x = bp := fun x hx he => by have := (h.sepS x hx).1; omega
  have nT : ∀ x, T x → ¬ x = bp := fun x hx he => by have := (h.sepT x hx).1; omega
  exact ⟨hp, h.frm.tr g, h.res.frm g (by omega), h.rule.frm g (by omega), h.head.frm g nT, h.buf.frm g nS, h.lits.imp fun _ _ hl => hl.frm g nT,
    fun x hx => by obtain ⟨a1, a2, a3⟩ := h.sepS x hx; exact ⟨a1, by omega, a3⟩, fun x hx => by obtain ⟨a1, a2, a3⟩ := h.sepT x hx; exact ⟨a1, by omega, a3⟩, hr⟩
theorem sbody_step (C : Codes tab) (PI : Parses tab) {Tw : Nat → Prop} {a w : AW} {bp rb : Nat} {ws : List Wd} {wh : Bool} {hd : Lt} {hv : V} {fin : List Lt × Nat × Nat} {q : Nat} {f : Fr} {s : List SI} {Q : Fr → AW → Prop} (hok : WsOk ws) (hT : ∀ x, Tw x → x < a.next) (hlt : bp < a.next)
    (hI : SBodI Tw a bp rb ws wh hd hv fin q f w) (ih : ∀ n' f' w', n' < q → SBodI Tw a bp rb ws wh hd hv fin n' f' w' → WS tab (.code (.loop k_syntax_parser_clause_p3) :: .endB 0 :: s) f' w' Q)
    (out : ∀ s' f' w', SBodJ Tw a bp rb ws wh hd hv fin f' w' → popTo 0 s' = some s → WS tab (.code (.exit 0) :: s') f' w' Q) : WS tab (.code k_syntax_parser_clause_p3 :: .code (.loop k_syntax_parser_clause_p3) :: .endB 0 :: s) f w Q := by
  obtain ⟨body, k, v, bv, S, T, xss, ⟨f0, f2, f3⟩, hA, hl6, hq, hfin⟩ := hI
  have hk := hA.p.kle
  obtain ⟨q, rfl⟩ : ∃ q', q = q' + 1 := ⟨q - 1, by omega⟩
  have nx := hA.frm.next
  have hrbn := hA.rbn
  have hrb : rb < w.next := hA.rule.lt
  have hnb : ¬ rb = bp := by omega
  have la : w.load rb 3 1 = some [bv] := CB.ld hA.rule 3 1 _ rfl
  refine WS_run 1000 (by simp only [go_sem, eRun_exit, simprocAttr, k_syntax_parser_clause_p3, k_syntax_parser_clause_p2]; rfl) ?_
  refine WS_drawn ?_
  refine WDs_run 100 (by simp only [go_sem, eRun_exit, simprocAttr, f3, f0, la]; rfl) ?_
  refine WDs_call (by simp only [go_sem, eRun_exit, simprocAttr]) (by simp only [go_sem, eRun_exit, simprocAttr]; rfl) ?_
  refine slit_ok C PI hA.p (fun x hx => Nat.lt_of_lt_of_le (hT x hx) nx) hok fun w1 v1 k1 e1 Tn t xs p1 g1 hD q3 ql q4 => ?_
  obtain ⟨xl, xo⟩ := q3.one
  have hA1 := hA.step hlt p1 g1
  have hk1 := p1.kle
  have n1 := g1.next
  have la1 : w1.load rb 3 1 = some [bv] := CB.ld hA1.rule 3 1 _ rfl
  have hf1 : Frm (fun _ => False) w1 (w1.fresh xs) := fresh_frm _ _
  have la1' : (w1.fresh xs).load rb 3 1 = some [bv] := CB.ld (hA1.rule.frm hf1 fun h => h) 3 1 _ rfl
  obtain ⟨bv', w5, S5, a1, a2, a3, a4⟩ := hA1.buf.push (news := xs) (bytes := 48) (fun b hb => (hA1.sepS b hb).2.1) (by omega) xl xo (by omega) (by omega)
  have hel : (w1.fresh xs).elems 3 (.slice w1.next 0 1 (.known 1)) = some (1, xs) := elems_fresh (by omega) (by rw [xl])
  have nrb : ¬ S rb := fun h => (hA1.sepS _ h).2.2.1 rfl
  have nres : ¬ S a.next := fun h => by have := (hA1.sepS _ h).1; omega
  have nbp : ¬ S bp := fun h => by have := (hA1.sepS _ h).1; omega
  have nTw : ∀ x, Tw x → ¬ S x := fun x hx h => by have := hT x hx; have := (hA1.sepS x h).1; omega
  have rule5 := hA1.rule.frm a3 nrb
  obtain ⟨vone, vc⟩ := buf_one a2
  have st := rule5.set (i := 3) (v := bv') (by simp) vone
  have st : w5.store rb 3 [bv'] = some (w5.put rb [.int .i64 (Int.ofNat hd.kind), .str hd.name, hv, bv']) := st
  have pf : Frm (fun b => b = rb) w5 (w5.put rb [.int .i64 (Int.ofNat hd.kind), .str hd.name, hv, bv']) := put_frm
  have hov : over [V.int .i64 0, V.str [], V.nilslice] 0 xs = some xs := by
    have := over_mid [] [V.int .i64 0, V.str [], V.nilslice] [] xs (by rw [xl]; rfl)
    simpa using this
  have n5 := a3.next
  have nTn : ∀ x, Tn x → a.next < x ∧ x < w1.next := fun x hx => by obtain ⟨b1, b2⟩ := q4 x hx; exact ⟨by omega, b2⟩
  have hnTn : ∀ x, Tn x → x ≠ rb := fun x hx he => by have := (q4 x hx).1; omega
  have sepS5 : ∀ x, S5 x → a.next < x ∧ x < w5.next ∧ x ≠ rb ∧ ¬ (T x ∨ Tn x) := by
    intro x hx
    obtain ⟨m1, m2⟩ := a4 x hx
    rcases m2 with m2 | m2
    · obtain ⟨y1, y2, y3, y4⟩ := hA1.sepS x m2
      refine ⟨y1, m1, y3, ?_⟩
      rintro (h | h)
      · exact y4 h
      · have := (q4 x h).1; have := (hA.sepS x m2).2.1; omega
    · refine ⟨by omega, m1, by omega, ?_⟩
      rintro (h | h)
      · have := (hA1.sepT x h).2.1; omega
      · have := (nTn x h).2; omega
  have nT5 : ∀ x, (T x ∨ Tn x) → ¬ S x := by
    rintro x (hx | hx) h
    · exact (hA1.sepS x h).2.2.2 hx
    · have := (q4 x hx).1; have := (hA.sepS x h).2.1; omega
  have nTr : ∀ x, (T x ∨ Tn x) → ¬ x = rb := by
    rintro x (hx | hx)
    · exact (hA1.sepT x hx).2.2
    · exact hnTn x hx
  have hA5 : SB Tw a (w5.put rb [.int .i64 (Int.ofNat hd.kind), .str hd.name, hv, bv']) bp rb ws wh hd hv (body ++ [t]) k1 e1 v1 bv' S5 (fun x => T x ∨ Tn x) (xss ++ [xs]) := by
    refine ⟨(p1.frm a3 nbp nTw).frm pf (fun h => hnb h.symm) fun x hx he => by have := hT x hx; omega, ?_, (hA1.res.frm a3 nres).frm pf (by omega), put_cb rule5.lt, ?_, ?_, ?_, sepS5, ?_, hrbn⟩
    · exact (hA1.frm.trans a3 (fun _ _ h => h) fun x hx h => by have := (hA1.sepS x h).1; omega).trans pf (fun _ _ h => h) fun x hx he => by omega
    · exact ((hA1.head.mono fun _ h => .inl h).frm a3 nT5).frm pf nTr
    · rw [List.length_append, List.length_singleton, List.flatten_append, List.flatten_cons, List.flatten_nil, List.append_nil]
      exact a2.frm pf fun x hx he => (sepS5 x hx).2.2.1 he
    · refine All2.snoc (((q3.mono fun _ h => .inr h).frm a3 nT5).frm pf nTr) ?_
      exact hA1.lits.imp fun r ys hr => ((hr.mono fun _ h => .inl h).frm a3 nT5).frm pf nTr
    · rintro x (hx | hx)
      · obtain ⟨y1, y2, y3⟩ := hA1.sepT x hx; exact ⟨y1, by show x < w5.next; omega, y3⟩
      · obtain ⟨y1, y2⟩ := nTn x hx; exact ⟨y1, by show x < w5.next; omega, hnTn x hx⟩
  have hl7 : (body ++ [t]).length = body.length + 1 := by simp
  refine WDs_run 100 (by simp only [go_sem, eRun_exit, simprocAttr, f3, xl, evParts, fillV, hov, List.length_cons, List.length_nil, hel, a1, st, vc]; rfl) ?_
  refine WDs_nil ⟨(show chkAll _ _ [(1, 3), (1, 4)] from by simp only [go_sem, eRun_exit, simprocAttr, chkAll, chk, List.reverse_cons, List.reverse_nil, mkStp_fe, mkStp_v, mkStp_0, mkStp_1, List.getElem?_nil, false_or, or_true, or_false, exists_eq', Option.some.injEq, Prod.mk.injEq, Bool.true_eq_false, Bool.false_eq_true, and_true, true_and, implies_true,  f3, la, la1, la1']), ?_⟩
  have hlv := hA5.buf.lenV
  have l2 : (w5.put rb [.int .i64 (Int.ofNat hd.kind), .str hd.name, hv, bv']).load rb 3 1 = some [bv'] := CB.ld hA5.rule 3 1 _ rfl
  generalize w5.put rb [.int .i64 (Int.ofNat hd.kind), .str hd.name, hv, bv'] = w6 at *
  rw [hl7] at hlv
  have hE1 : e1 = (rLit ws k 0).2.2 := hD.same rfl
  obtain ⟨e2, he2⟩ : ∃ e2, e2 = if e1 = 0 ∧ body.length = 6 then 8 else e1 := ⟨_, rfl⟩
  have hfin2 : fin = if rSign ws (rLit ws k 0).2.1 [44] = true then rBody ws q (body ++ [(rLit ws k 0).1]) ((rLit ws k 0).2.1 + 1) e2 else (body ++ [(rLit ws k 0).1], (rLit ws k 0).2.1, e2) := by
    rw [← hfin, he2, hE1]
    simp only [rBody, if_true]
  have he20 : e2 = 0 → e1 = 0 ∧ body.length ≠ 6 := by
    intro h
    rw [h] at he2
    by_cases hc : e1 = 0 ∧ body.length = 6
    · rw [if_pos hc] at he2; omega
    · rw [if_neg hc] at he2
      exact ⟨he2.symm, fun h => hc ⟨he2.symm, h⟩⟩
  have hbadF : e2 ≠ 0 → fin.2.2 = e2 := by
    intro h
    rw [hfin2]
    split
    · rw [rBody_stop h]
    · rfl
  have hgk := rLit_ge ws k 0
  have rest : ∀ {w7 : AW} {fr : Fr}, SB Tw a w7 bp rb ws wh hd hv (body ++ [t]) k1 e2 v1 bv' S5 (fun x => T x ∨ Tn x) (xss ++ [xs]) → SBF fr bp a.next rb →
      WS tab (.code (.seq (.region [⟨some 22, none, .mov (.tmp 0)⟩, ⟨some 23, none, .call (.const (.func (.func n_syntax_parser_take) [] [])) [(.tmp 22), (.const (.str [44]))]⟩, ⟨some 24, none, .un .not (.tmp 23)⟩]) (.cond (.tmp 24) (.exit 0) .skip)) :: .endB 1 :: .code (.loop k_syntax_parser_clause_p3) :: .endB 0 :: s) fr w7 Q := by
    rintro w7 fr hA7 ⟨f0, f2, f3⟩
    refine WS_run 1000 (by simp only [go_sem, eRun_exit, simprocAttr, f0]; rfl) ?_
    refine WS_call (by simp only [go_sem, eRun_exit, simprocAttr]) (by simp only [go_sem, eRun_exit, simprocAttr]; rfl) ?_
    refine ptake_ok C hA7.p (fun x hx => Nat.lt_of_lt_of_le (hT x hx) hA7.frm.next) fun w8 v8 p8 g8 => ?_
    have hA8 := hA7.step hlt p8 g8
    cases hs : pSign ws k1 e2 [44] with
    | false =>
      rw [hs, if_neg (by simp)] at hA8
      refine WS_runB 1000 (by simp only [go_sem, simprocAttr]; rfl) ?_
      refine out _ _ _ ⟨body ++ [t], k1, e2, v8, bv', S5, _, _, ⟨(by simp only [go_sem, eRun_exit, simprocAttr, f0] <;> rfl), (by simp only [go_sem, eRun_exit, simprocAttr, f2] <;> rfl), (by simp only [go_sem, eRun_exit, simprocAttr, f3] <;> rfl)⟩, hA8, by omega, ?_, ?_⟩ rfl
      · by_cases h0 : e2 = 0
        · subst h0
          have h10 : e1 = 0 := (he20 rfl).1
          obtain ⟨d1, d2⟩ := hD.fine rfl h10
          rw [pSign_0, d1] at hs
          rw [hfin2, if_neg (by rw [hs]; simp)]
        · exact hbadF h0
      · intro h0
        subst h0
        have h10 : e1 = 0 := (he20 rfl).1
        obtain ⟨d1, d2⟩ := hD.fine rfl h10
        rw [pSign_0, d1] at hs
        rw [hfin2, if_neg (by rw [hs]; simp), d1, d2]
        exact ⟨rfl, rfl⟩
    | true =>
      rw [hs, if_pos rfl] at hA8
      obtain ⟨hkl, h0, hs'⟩ := pSign_lt hs
      subst h0
      obtain ⟨h10, h4⟩ := he20 rfl
      obtain ⟨d1, d2⟩ := hD.fine rfl h10
      rw [d1] at hs'
      rw [if_pos hs', ← d1, ← d2] at hfin2
      refine WS_run 1000 (by simp only [go_sem, eRun_exit, simprocAttr]; rfl) ?_
      exact ih q _ _ (by omega) ⟨body ++ [t], k1 + 1, v8, bv', S5, _, _, ⟨(by simp only [go_sem, eRun_exit, simprocAttr, f0] <;> rfl), (by simp only [go_sem, eRun_exit, simprocAttr, f2] <;> rfl), (by simp only [go_sem, eRun_exit, simprocAttr, f3] <;> rfl)⟩, hA8, by omega, by omega, hfin2.symm⟩
  by_cases h5 : body.length + 1 > 6
  · have h4 : body.length = 6 := by omega
    rw [h4] at hlv
    refine WS_run 1000 (by simp only [go_sem, eRun_exit, simprocAttr, k_syntax_parser_clause_p1, k_syntax_parser_clause_p0, f0, f3, l2, hlv]; rfl) ?_
    refine WS_call (by simp only [go_sem, eRun_exit, simprocAttr]) (by simp only [go_sem, eRun_exit, simprocAttr]; rfl) ?_
    refine pfail_ok C (x := 8) hA5.p fun w7 u1 u2 => ?_
    have h8 : rBad e1 8 = e2 := by
      rw [he2]; unfold rBad
      by_cases h0 : e1 = 0
      · rw [if_pos h0, if_pos ⟨h0, h4⟩]
      · rw [if_neg h0, if_neg (fun h => h0 h.1)]
    rw [h8] at u1
    refine WS_runB 1 (by simp only [go_sem, eRun_exit, simprocAttr]; rfl) ?_
    exact rest (hA5.step hlt u1 u2) ⟨(by simp only [go_sem, eRun_exit, simprocAttr, f0] <;> rfl), (by simp only [go_sem, eRun_exit, simprocAttr, f2] <;> rfl), (by simp only [go_sem, eRun_exit, simprocAttr, f3] <;> rfl)⟩
  · have h4 : ¬ body.length = 6 := by omega
    rw [if_neg (fun h => h4 h.2)] at he2
    subst he2
    refine WS_runB 10 (by simp only [go_sem, eRun_exit, simprocAttr, k_syntax_parser_clause_p1, f3, l2, hlv, h5]; rfl) ?_
    exact rest hA5 ⟨(by simp only [go_sem, eRun_exit, simprocAttr, f0] <;> rfl), (by simp only [go_sem, eRun_exit, simprocAttr, f2] <;> rfl), (by simp only [go_sem, eRun_exit, simprocAttr, f3] <;> rfl)⟩
theorem sclause_ok (C : Codes tab) (PI : Parses tab) {Tw : Nat → Prop} {bp k e : Nat} {wh : Bool} {v : V} {ws : List Wd} {aw : AW} {K : V → AW → Prop} (hp : PgS Tw aw bp ws v k wh e) (hT : ∀ x, Tw x → x < aw.next) (hok : WsOk ws)
    (h : ∀ w v' k' e' T r xs, PgS Tw w bp ws v' k' wh e' → Frm (fun b => b = bp) aw w → Dn e (rClause ws k 0) r k' e' → RlC T w r xs → (∀ x, T x → aw.next ≤ x ∧ x < w.next) → K (.agg xs) w) : WF tab n_syntax_parser_clause [.ptr bp 0] aw K := by
  refine WF_of C.c_syntax_parser_clause rfl ?_
  obtain ⟨w1, e1, c1, r1, m1⟩ := box1 aw [.int .i64 0, .str [], .nilslice, .nilslice]
  have hp1 := hp.frm0 r1
  have hbl := hp.cb.lt
  have hnb : ¬ aw.next = bp := by omega
  have hT1 : ∀ {w}, Frm (fun b => b = bp) aw w → ∀ x, Tw x → x < w.next := fun g x hx => Nat.lt_of_lt_of_le (hT x hx) g.next
  refine WS_run 1000 (by simp only [go_sem, eRun_exit, simprocAttr, k_syntax_parser_clause, k_syntax_parser_clause_p5, e1]; rfl) ?_
  refine WS_call (by simp only [go_sem, eRun_exit, simprocAttr]) (by simp only [go_sem, eRun_exit, simprocAttr]; rfl) ?_
  refine satom_ok C PI hp1 (hT1 r1.no) hok fun w2 v2 k1 e1 T hd xs p2 g2 hD q3 ql q4 => ?_
  obtain ⟨xl, xo⟩ := q3.one
  obtain ⟨hv, rfl, hrd⟩ := q3
  have hov : over [V.int .i64 0, V.str [], V.nilslice, V.nilslice] 0 [V.int .i64 (Int.ofNat hd.kind), V.str hd.name, hv] = some [V.int .i64 (Int.ofNat hd.kind), V.str hd.name, hv, V.nilslice] := rfl
  have hone : allOne [V.int .i64 (Int.ofNat hd.kind), V.str hd.name, hv, V.nilslice] = true := by
    rcases hrd.inv with ⟨rfl, _⟩ | ⟨_, _, _, rfl, _⟩ <;> rfl
  obtain ⟨w3, s3, c3, r3, n3⟩ := boxed w2 (zs := [V.int .i64 0, V.str [], V.nilslice, V.nilslice]) (vs := [V.int .i64 (Int.ofNat hd.kind), V.str hd.name, hv, V.nilslice]) rfl hone
  have p3 := p2.frm0 r3
  have n2 := g2.next
  have g3 : Frm (fun b => b = bp) aw w3 := (r1.no.tr g2).tr r3.no
  have hA0 : SB Tw aw w3 bp w2.next ws wh hd hv [] k1 e1 v2 .nilslice (fun _ => False) T [] := by
    refine ⟨p3, g3, (c1.frm g2 hnb).frm r3 fun h => h, c3, hrd.frm r3 fun _ _ h => h, .nil, .nil, fun _ h => h.elim, fun x hx => ?_, by omega⟩
    obtain ⟨b1, b2⟩ := q4 x hx
    exact ⟨by omega, by omega, by omega⟩
  have hE : ∀ k'' {e'' : Nat}, e'' ≠ 0 → rEat ws [46] k'' e'' = (k'', e'') := fun k'' e'' h0 => by unfold rEat; rw [if_neg h0]
  refine WS_run 1000 (by simp only [go_sem, eRun_exit, simprocAttr, xl, evParts, fillV, hov, List.length_cons, List.length_nil, s3]; rfl) ?_
  refine WS_call (by simp only [go_sem, eRun_exit, simprocAttr]) (by simp only [go_sem, eRun_exit, simprocAttr]; rfl) ?_
  refine ptake_ok C p3 (hT1 g3) fun w4 v4 p4 g4 => ?_
  have hA4 := hA0.step hbl p4 g4
  -- the dot
  have fin : ∀ {s : List SI} {fr : Fr} {w : AW} {body : List Lt} {k5 e5 : Nat} {v5 bv : V} {S T : Nat → Prop} {xss : List (List V)}, SB Tw aw w bp w2.next ws wh hd hv body k5 e5 v5 bv S T xss → SBF fr bp aw.next w2.next →
      Dn e (rClause ws k 0) ⟨hd, body⟩ (rEat ws [46] k5 e5).1 (rEat ws [46] k5 e5).2 →
      WS tab (.code k_syntax_parser_clause_p4 :: s) fr w (fun fr' aw' => ∃ vs, resV fr' aw' k_syntax_parser_clause.results = some vs ∧ K (resOne vs) aw') := by
    rintro s fr w body k5 e5 v5 bv S T xss hA ⟨f0, f2, f3⟩ hDn
    refine WS_run 1000 (by simp only [go_sem, eRun_exit, simprocAttr, k_syntax_parser_clause_p4, f0]; rfl) ?_
    refine WS_call (by simp only [go_sem, eRun_exit, simprocAttr]) (by simp only [go_sem, eRun_exit, simprocAttr]; rfl) ?_
    refine must_ok C hA.p (hT1 hA.frm) fun w8 v8 p8 g8 => ?_
    have hA8 := hA.step hbl p8 g8
    have b8 := hA8.rule.all (n := 4) rfl
    have hR : RlC (fun x => S x ∨ T x) w8 ⟨hd, body⟩ [V.int .i64 (Int.ofNat hd.kind), V.str hd.name, hv, bv] :=
      ⟨hv, bv, rfl, hA8.head.mono fun _ h => .inr h, xss, hA8.buf.rd.mono fun _ h => .inl h, hA8.lits.imp fun _ _ hl => hl.mono fun _ h => .inr h⟩
    have hst := hA8.res.setAll (vs := [V.int .i64 (Int.ofNat hd.kind), V.str hd.name, hv, bv]) rfl hR.one.2
    have hrl := (put_cb (l := [V.int .i64 (Int.ofNat hd.kind), V.str hd.name, hv, bv]) hA8.res.lt).all (n := 4) rfl
    have pf : Frm (fun b => b = aw.next) w8 (w8.put aw.next [V.int .i64 (Int.ofNat hd.kind), V.str hd.name, hv, bv]) := put_frm
    refine WS_run 1000 (by simp only [go_sem, eRun_exit, simprocAttr, f2, f3, b8, hst, List.length_cons, List.length_nil]; rfl) ?_
    refine WS_ret ⟨_, by simp only [go_sem, eRun_exit, simprocAttr, k_syntax_parser_clause, f2, hrl]; rfl, ?_⟩
    refine h _ v8 _ _ (fun x => S x ∨ T x) ⟨hd, body⟩ _ (p8.frm pf (fun h => hnb h.symm) fun x hx he => by have := hT x hx; omega) (hA8.frm.out (Nat.le_refl _) rfl) hDn (hR.frm pf ?_) ?_
    · rintro x (hx | hx) he
      · have := (hA8.sepS x hx).1; omega
      · have := (hA8.sepT x hx).1; omega
    · rintro x (hx | hx)
      · have := hA8.sepS x hx; exact ⟨by omega, this.2.1⟩
      · have := hA8.sepT x hx; exact ⟨by omega, this.2.1⟩
  cases hs : pSign ws k1 e1 [58, 45] with
  | false =>
    rw [hs, if_neg (by simp)] at hA4
    refine WS_runB 1000 (by simp only [go_sem, eRun_exit, simprocAttr]; rfl) ?_
    refine fin hA4 ⟨(by simp only [go_sem, eRun_exit, simprocAttr] <;> rfl), (by simp only [go_sem, eRun_exit, simprocAttr] <;> rfl), (by simp only [go_sem, eRun_exit, simprocAttr] <;> rfl)⟩ ?_
    by_cases h0 : e1 = 0
    · subst h0
      have he : e = 0 := by
        by_cases he : e = 0
        · exact he
        · have := hD.bad he; omega
      subst he
      obtain ⟨d1, d2⟩ := hD.fine rfl rfl
      have d3 := hD.same rfl
      rw [pSign_0, d1] at hs
      have hr : rClause ws k 0 = (⟨hd, []⟩, (rEat ws [46] k1 0).1, (rEat ws [46] k1 0).2) := by
        simp only [rClause, hs, ← d3, d1, d2, Bool.false_eq_true, false_and, if_false]
      exact ⟨fun he => absurd rfl he, fun _ => by rw [hr], fun _ _ => by rw [hr]; exact ⟨rfl, rfl⟩⟩
    · rw [hE k1 h0]
      refine ⟨fun he => hD.bad he, fun he => ?_, fun _ h => absurd h h0⟩
      subst he
      have d3 := hD.same rfl
      have hr : (rClause ws k 0).2.2 = e1 := by
        simp only [rClause, ← d3, h0, and_false, if_false]
        rw [hE _ h0]
      rw [hr]
  | true =>
    rw [hs, if_pos rfl] at hA4
    obtain ⟨hkl, h0, hs'⟩ := pSign_lt hs
    subst h0
    have he : e = 0 := by
      by_cases he : e = 0
      · exact he
      · have := hD.bad he; omega
    subst he
    obtain ⟨d1, d2⟩ := hD.fine rfl rfl
    have d3 := hD.same rfl
    refine WS_run 1000 (by simp only [go_sem, eRun_exit, simprocAttr]; rfl) ?_
    refine WS_loopJ (SBodI Tw aw bp w2.next ws wh hd hv (rBody ws (ws.length + 1) [] (k1 + 1) 0)) (SBodJ Tw aw bp w2.next ws wh hd hv (rBody ws (ws.length + 1) [] (k1 + 1) 0)) (fun n f w hI ih out => sbody_step C PI hok hT hbl hI ih out) ?_ (ws.length + 1)
      ⟨[], k1 + 1, v4, .nilslice, _, _, [], ⟨(by simp only [go_sem, eRun_exit, simprocAttr] <;> rfl), (by simp only [go_sem, eRun_exit, simprocAttr] <;> rfl), (by simp only [go_sem, eRun_exit, simprocAttr] <;> rfl)⟩, hA4, by simp, by omega, rfl⟩
    rintro f w ⟨body, k5, e5, v5, bv, S, T', xss, hF, hA, hl7, hfe, hfk⟩
    refine fin hA hF ?_
    have hr : rClause ws k 0 = (⟨hd, (rBody ws (ws.length + 1) [] (k1 + 1) 0).1⟩, (rEat ws [46] (rBody ws (ws.length + 1) [] (k1 + 1) 0).2.1 (rBody ws (ws.length + 1) [] (k1 + 1) 0).2.2).1, (rEat ws [46] (rBody ws (ws.length + 1) [] (k1 + 1) 0).2.1 (rBody ws (ws.length + 1) [] (k1 + 1) 0).2.2).2) := by
      simp only [rClause, ← d3, ← d1, ← d2, hs', and_self, if_true]
    generalize rBody ws (ws.length + 1) [] (k1 + 1) 0 = rb at hr hfe hfk
    obtain ⟨body', k', e'⟩ := rb
    simp only at hr hfe hfk
    subst hfe
    by_cases h0 : e' = 0
    · subst h0
      obtain ⟨rfl, rfl⟩ := hfk rfl
      exact ⟨fun he => absurd rfl he, fun _ => by rw [hr], fun _ _ => by rw [hr]; exact ⟨rfl, rfl⟩⟩
    · rw [hE _ h0] at hr
      rw [hE _ h0]
      exact ⟨fun he => absurd rfl he, fun _ => by rw [hr], fun _ he => absurd he h0⟩
end Go.Proofs.YtegdcbdicpfbpaaGreatDoor
set_option linter.unusedVariables false
set_option maxRecDepth 10000
set_option linter.unusedSimpArgs false
namespace Go.Proofs.YtegdcbdicpfbpaaGreatDoor
open Go.AE Delphi Val
variable {tab : Tab}
def openWs (s : List Nat) : List Wd := if 4000 < s.length then [] else (scan 0 s).1
def openWh (s : List Nat) : Bool := if 4000 < s.length then false else (scan 0 s).2
def openE (s : List Nat) : Nat := if 4000 < s.length then 8 else 0
theorem sopen_ok (C : Codes tab) (E : ExtIdx tab) {s : List Nat} {aw : AW} {K : V → AW → Prop} (hb : ∀ x ∈ s, x < 256) (hs : s.length ≤ 1099511627776)
    (h : ∀ w bp v Tw, PgS Tw w bp (openWs s) v 0 (openWh s) (openE s) → WsOk (openWs s) → Frm (fun _ => False) aw w → aw.next ≤ bp → (∀ x, Tw x → aw.next ≤ x ∧ x < w.next) → K (.ptr bp 0) w) : WF tab n_syntax_open [.str s] aw K := by
  refine WF_of C.c_syntax_open rfl ?_
  by_cases hl : 4000 < s.length
  · simp only [openWs, openWh, openE, if_pos hl] at h
    obtain ⟨w1, e1, c1, r1, m1⟩ := box1 aw [.nilslice, .bool false, .int .i64 8]
    refine WS_run 1000 (by simp only [go_sem, eRun_exit, simprocAttr, k_syntax_open, k_syntax_open_p0, hl, evParts, fillV, over, List.length_cons, List.length_nil, e1]; rfl) ?_
    refine WS_ret ⟨_, by simp only [go_sem, eRun_exit, simprocAttr, k_syntax_open]; rfl, ?_⟩
    exact h w1 aw.next .nilslice (fun _ => False) ⟨c1, by simp, .inl ⟨rfl, rfl⟩, fun h => h, by simp⟩ ⟨by simp, by simp⟩ r1 (Nat.le_refl _) fun _ h => h.elim
  · simp only [openWs, openWh, openE, if_neg hl] at h
    refine WS_run 1000 (by simp only [go_sem, eRun_exit, simprocAttr, k_syntax_open, k_syntax_open_p2, hl]; rfl) ?_
    refine WS_call (by simp only [go_sem, eRun_exit, simprocAttr]) (by simp only [go_sem, eRun_exit, simprocAttr]; rfl) ?_
    refine front_ok C E hb hs fun v aw' hown hext => ?_
    obtain ⟨wl, wok⟩ := scan_wok hb
    have wnum := scan_num (s := s)
    generalize (scan 0 s).1 = ws at hown wl wok wnum h
    generalize (scan 0 s).2 = wh at h
    have hrd := hown.rd
    have vc : v.cells = [v] := by rcases hrd.inv with ⟨rfl, _⟩ | ⟨_, _, _, rfl, _⟩ <;> rfl
    have f0 : Frm (fun _ => False) aw aw' := hext.frm (S := fun _ => False) fun x hx hn => by omega
    obtain ⟨w1, e1, c1, r1, m1⟩ := box1 aw' [v, .bool wh, .int .i64 0]
    have hov1 : over [V.nilslice, V.bool false, V.int .i64 0] 0 [v] = some [v, V.bool false, V.int .i64 0] := rfl
    have hov2 : over [v, V.bool false, V.int .i64 0] 1 [V.bool wh] = some [v, V.bool wh, V.int .i64 0] := rfl
    refine WS_run 1000 (by simp only [go_sem, eRun_exit, simprocAttr, k_syntax_open_p1, evParts, fillV, vc, hov1, hov2, List.length_cons, List.length_nil, e1]; rfl) ?_
    refine WS_ret ⟨_, by simp only [go_sem, eRun_exit, simprocAttr, k_syntax_open]; rfl, ?_⟩
    refine h w1 aw'.next v (fun b => aw.next ≤ b ∧ b < aw'.next) ⟨c1, Nat.zero_le _, ?_, fun h => by omega, by omega⟩ ⟨wok, wnum⟩ (f0.tr r1) hext.next fun x hx => ⟨hx.1, by omega⟩
    have hrd1 := hrd.frm r1 fun _ _ h => h
    have hsh : ∀ {n : Nat} {cs : List V}, Own aw.next aw' v 3 n cs → (v = .nilslice ∧ n = 0) ∨ ∃ b, v = .slice b 0 n (.upTo 3) := by
      intro n cs h
      cases h with
      | nil => exact .inl ⟨rfl, rfl⟩
      | blk => exact .inr ⟨_, rfl⟩
    rcases hsh hown with ⟨h1, h2⟩ | ⟨b, h1⟩
    · exact .inl ⟨List.length_eq_zero_iff.1 h2, h1⟩
    · subst h1
      exact .inr ⟨b, by simp, hrd1⟩
structure SR (Tw : Nat → Prop) (a w : AW) (bp : Nat) (ws : List Wd) (wh : Bool) (rules : List Rl) (k e : Nat) (v rv : V) (S T : Nat → Prop) (xss : List (List V)) : Prop where
  p : PgS Tw w bp ws v k wh e
  frm : Frm (fun b => b = bp) a w
  buf : Buf S w rv 4 rules.length xss.flatten
  rls : All2 (RlC T w) rules xss
  sepS : ∀ x, S x → a.next ≤ x ∧ x < w.next ∧ ¬ T x
  sepT : ∀ x, T x → a.next ≤ x ∧ x < w.next
theorem SR.step {Tw : Nat → Prop} {a w w' : AW} {bp : Nat} {ws : List Wd} {wh : Bool} {rules : List Rl} {k e k' e' : Nat} {v v' rv : V} {S T : Nat → Prop} {xss : List (List V)} (h : SR Tw a w bp ws wh rules k e v rv S T xss) (hb : bp < a.next) (hp : PgS Tw w' bp ws v' k' wh e') (g : Frm (fun b => b = bp) w w') : SR Tw a w' bp ws wh rules k' e' v' rv S T xss := by
  have n := g.next
  have nS : ∀ x, S x → ¬ x = bp := fun x hx he => by have := (h.sepS x hx).1; omega
  have nT : ∀ x, T x → ¬ x = bp := fun x hx he => by have := (h.sepT x hx).1; omega
  exact ⟨hp, h.frm.tr g, h.buf.frm g nS, h.rls.imp fun _ _ hl => hl.frm g nT,
    fun x hx => by obtain ⟨a1, a2, a3⟩ := h.sepS x hx; exact ⟨a1, by omega, a3⟩, fun x hx => by obtain ⟨a1, a2⟩ := h.sepT x hx; exact ⟨a1, by omega⟩⟩
structure SRF (f : Fr) (bp : Nat) (rv : V) : Prop where
  f4 : f.get 4 = some (.ptr bp 0)
  f5 : f.get 5 = some rv
def SRulI (Tw : Nat → Prop) (a : AW) (bp : Nat) (ws : List Wd) (wh : Bool) (fin : List Rl × Nat × Nat) (n : Nat) (f : Fr) (w : AW) : Prop :=
  ∃ rules k e q v rv S T xss, SRF f bp rv ∧ SR Tw a w bp ws wh rules k e v rv S T xss ∧ rules.length ≤ 31 ∧ n = (if e = 0 then ws.length - k + 1 else 0) ∧ (e = 0 → rRules ws q rules k 0 = fin ∧ rules.length ≤ 30 ∧ ws.length + 1 ≤ q + k) ∧ (e ≠ 0 → e = rBad fin.2.2 (if wh then 0 else 4))
def SRulJ (Tw : Nat → Prop) (a : AW) (bp : Nat) (ws : List Wd) (wh : Bool) (fin : List Rl × Nat × Nat) (f : Fr) (w : AW) : Prop :=
  ∃ rules k e v rv S T xss, SRF f bp rv ∧ SR Tw a w bp ws wh rules k e v rv S T xss ∧ e = rBad fin.2.2 (if wh then 0 else 4) ∧ (e = 0 → rules = fin.1)
theorem rClause_end {ws : List Wd} : (rClause ws ws.length 0).2.2 = 4 := by
  have hn : rNext ws ws.length 0 = none := by simp only [rNext, if_true]; exact List.getElem?_eq_none (Nat.le_refl _)
  have ha : rAtom ws ws.length 0 = (Lt.zero, ws.length, 4) := by simp only [rAtom, hn]; rfl
  simp only [rClause, ha]
  simp [rEat]
theorem srule_step (C : Codes tab) (PI : Parses tab) {Tw : Nat → Prop} {a w : AW} {bp : Nat} {ws : List Wd} {wh : Bool} {fin : List Rl × Nat × Nat} {n : Nat} {f : Fr} {s : List SI} {Q : Fr → AW → Prop} (hok : WsOk ws) (hT : ∀ x, Tw x → x < a.next) (hlt : bp < a.next)
    (hI : SRulI Tw a bp ws wh fin n f w) (ih : ∀ n' f' w', n' < n → SRulI Tw a bp ws wh fin n' f' w' → WS tab (.code (.loop k_syntax_Program_p2) :: .endB 0 :: s) f' w' Q)
    (out : ∀ s' f' w', SRulJ Tw a bp ws wh fin f' w' → popTo 0 s' = some s → WS tab (.code (.exit 0) :: s') f' w' Q) : WS tab (.code k_syntax_Program_p2 :: .code (.loop k_syntax_Program_p2) :: .endB 0 :: s) f w Q := by
  obtain ⟨rules, k, e, q, v, rv, S, T, xss, ⟨f4, f5⟩, hA, hl31, hn, hgood, hbad⟩ := hI
  have l2 := hA.p.l2
  have hk := hA.p.kle
  by_cases he : e = 0
  case neg =>
    refine WS_runB 1000 (by simp only [go_sem, simprocAttr, k_syntax_Program_p2, f4, l2, he]; rfl) ?_
    exact out _ _ _ ⟨rules, k, e, v, rv, S, T, xss, ⟨(by simp only [go_sem, eRun_exit, simprocAttr, f4] <;> rfl), (by simp only [go_sem, eRun_exit, simprocAttr, f5] <;> rfl)⟩, hA, hbad he, fun h => absurd h he⟩ rfl
  subst he
  rw [if_pos rfl] at hn
  obtain ⟨hfin, hl30, hq⟩ := hgood rfl
  refine WS_run 1000 (by simp only [go_sem, eRun_exit, simprocAttr, k_syntax_Program_p2, f4, l2]; rfl) ?_
  refine WS_call (by simp only [go_sem, eRun_exit, simprocAttr]) (by simp only [go_sem, eRun_exit, simprocAttr]; rfl) ?_
  refine end_ok C hA.p ?_
  -- a clause
  have cl : ∀ {fr : Fr}, (k = ws.length → wh = false) → SRF fr bp rv → WS tab (.code k_syntax_Program_p1 :: .endB 1 :: .code (.loop k_syntax_Program_p2) :: .endB 0 :: s) fr w Q := by
    rintro fr hwh ⟨f4, f5⟩
    have nx := hA.frm.next
    refine WS_run 1000 (by simp only [go_sem, eRun_exit, simprocAttr, k_syntax_Program_p1, f4, f5]; rfl) ?_
    refine WS_call (by simp only [go_sem, eRun_exit, simprocAttr]) (by simp only [go_sem, eRun_exit, simprocAttr]; rfl) ?_
    refine sclause_ok C PI hA.p (fun x hx => Nat.lt_of_lt_of_le (hT x hx) nx) hok fun w1 v1 k1 e1 Tn t xs p1 g1 hD q3 q4 => ?_
    obtain ⟨xl, xo⟩ := q3.one
    have hA1 := hA.step hlt p1 g1
    have n1 := g1.next
    obtain ⟨rv', w5, S5, a1, a2, a3, a4⟩ := hA1.buf.push (news := xs) (bytes := 72) (fun b hb => (hA1.sepS b hb).2.1) (by omega) xl xo (by omega) (by omega)
    have hel : (w1.fresh xs).elems 4 (.slice w1.next 0 1 (.known 1)) = some (1, xs) := elems_fresh (by omega) (by rw [xl])
    have nbp : ¬ S bp := fun h => by have := (hA1.sepS _ h).1; omega
    have nTw : ∀ x, Tw x → ¬ S x := fun x hx h => by have := hT x hx; have := (hA1.sepS x h).1; omega
    have hov : over [V.int .i64 0, V.str [], V.nilslice, V.nilslice] 0 xs = some xs := by
      have := over_mid [] [V.int .i64 0, V.str [], V.nilslice, V.nilslice] [] xs (by rw [xl]; rfl)
      simpa using this
    have n5 := a3.next
    have nTn : ∀ x, Tn x → a.next ≤ x ∧ x < w1.next := fun x hx => by obtain ⟨b1, b2⟩ := q4 x hx; exact ⟨by omega, b2⟩
    have nT5 : ∀ x, (T x ∨ Tn x) → ¬ S x := by
      rintro x (hx | hx) h
      · exact (hA1.sepS x h).2.2 hx
      · have := (q4 x hx).1; have := (hA.sepS x h).2.1; omega
    have hA5 : SR Tw a w5 bp ws wh (rules ++ [t]) k1 e1 v1 rv' S5 (fun x => T x ∨ Tn x) (xss ++ [xs]) := by
      refine ⟨p1.frm a3 nbp nTw, hA1.frm.trans a3 (fun _ _ h => h) fun x hx h => by have := (hA1.sepS x h).1; omega, ?_, ?_, fun x hx => ?_, ?_⟩
      · rw [List.length_append, List.length_singleton, List.flatten_append, List.flatten_cons, List.flatten_nil, List.append_nil]
        exact a2
      · refine All2.snoc ((q3.mono fun _ h => .inr h).frm a3 nT5) ?_
        exact hA1.rls.imp fun r ys hr => (hr.mono fun _ h => .inl h).frm a3 nT5
      · obtain ⟨m1, m2⟩ := a4 x hx
        rcases m2 with m2 | m2
        · obtain ⟨y1, y2, y4⟩ := hA1.sepS x m2
          refine ⟨y1, m1, ?_⟩
          rintro (h | h)
          · exact y4 h
          · have := (q4 x h).1; have := (hA.sepS x m2).2.1; omega
        · refine ⟨by omega, m1, ?_⟩
          rintro (h | h)
          · have := (hA1.sepT x h).2; omega
          · have := (nTn x h).2; omega
      · rintro x (hx | hx)
        · obtain ⟨y1, y2⟩ := hA1.sepT x hx; exact ⟨y1, by omega⟩
        · obtain ⟨y1, y2⟩ := nTn x hx; exact ⟨y1, by omega⟩
    have hll : (rules ++ [t]).length = rules.length + 1 := by simp
    have hlv := hA5.buf.lenV
    rw [hll] at hlv
    have hE1 : e1 = (rClause ws k 0).2.2 := hD.same rfl
    obtain ⟨e2, he2⟩ : ∃ e2, e2 = if e1 = 0 ∧ rules.length = 30 then 8 else e1 := ⟨_, rfl⟩
    have he20 : e2 = 0 → e1 = 0 ∧ rules.length ≠ 30 := by
      intro h
      rw [h] at he2
      by_cases hc : e1 = 0 ∧ rules.length = 30
      · rw [if_pos hc] at he2; omega
      · rw [if_neg hc] at he2
        exact ⟨he2.symm, fun h => hc ⟨he2.symm, h⟩⟩
    have hk1 := p1.kle
    -- what the reference does
    have hgood2 : e2 = 0 → k < ws.length ∧ k < k1 ∧ ∃ q', rRules ws q' (rules ++ [t]) k1 0 = fin ∧ ws.length + 1 ≤ q' + k1 := by
      intro h0
      obtain ⟨h10, h30⟩ := he20 h0
      obtain ⟨d1, d2⟩ := hD.fine rfl h10
      have hkl : k < ws.length := by
        by_cases hkl : k = ws.length
        · rw [hkl, rClause_end] at hE1; omega
        · omega
      have hgt := rClause_gt (ws := ws) (k := k) (e := 0) (by rw [← hE1]; exact h10)
      rw [← d1] at hgt
      obtain ⟨q, rfl⟩ : ∃ q', q = q' + 1 := ⟨q - 1, by omega⟩
      refine ⟨hkl, hgt, q, ?_, by omega⟩
      rw [← hfin]
      simp only [rRules]
      rw [if_pos ⟨trivial, hkl⟩, ← hE1, ← d1, ← d2, ← he2, h0]
    have hbad2 : e2 ≠ 0 → e2 = rBad fin.2.2 (if wh then 0 else 4) := by
      intro h0
      by_cases hkl : k = ws.length
      · have h14 : e1 = 4 := by rw [hE1, hkl, rClause_end]
        have : e2 = 4 := by rw [he2, if_neg (by omega)]; exact h14
        have hst : fin = (rules, k, 0) := by
          rw [← hfin]
          cases q with
          | zero => rfl
          | succ q => simp only [rRules]; rw [if_neg (by omega)]
        rw [this, hst, hwh hkl]; rfl
      · obtain ⟨q, rfl⟩ : ∃ q', q = q' + 1 := ⟨q - 1, by omega⟩
        have hf2 : fin.2.2 = e2 := by
          rw [← hfin]
          simp only [rRules]
          rw [if_pos ⟨trivial, by omega⟩, ← hE1, ← he2, rRules_stop (fun h => h0 h.1)]
        rw [hf2]; exact (if_neg h0).symm
    have done : ∀ {fr : Fr} {w6 : AW}, SR Tw a w6 bp ws wh (rules ++ [t]) k1 e2 v1 rv' S5 (fun x => T x ∨ Tn x) (xss ++ [xs]) → SRF fr bp rv' → WS tab (.code (.loop k_syntax_Program_p2) :: .endB 0 :: s) fr w6 Q := by
      intro fr w6 hA6 hF
      by_cases h0 : e2 = 0
      · obtain ⟨g1, g2, q', g3, g4⟩ := hgood2 h0
        refine ih (ws.length - k1 + 1) _ _ (by clear he2 he20 hbad2 hgood2; omega) ⟨rules ++ [t], k1, e2, q', v1, rv', S5, _, _, hF, hA6, by omega, by rw [if_pos h0], fun _ => ⟨g3, by have := (he20 h0).2; omega, g4⟩, hbad2⟩
      · exact ih 0 _ _ (by omega) ⟨rules ++ [t], k1, e2, q, v1, rv', S5, _, _, hF, hA6, by omega, by rw [if_neg h0], fun h => absurd h h0, hbad2⟩
    by_cases h30 : rules.length + 1 > 30
    · have h4 : rules.length = 30 := by omega
      rw [h4] at hlv
      refine WS_run 1000 (by simp only [go_sem, eRun_exit, simprocAttr, xl, evParts, fillV, hov, List.length_cons, List.length_nil, hel, a1, hlv, k_syntax_Program_p0, f4]; rfl) ?_
      refine WS_call (by simp only [go_sem, eRun_exit, simprocAttr]) (by simp only [go_sem, eRun_exit, simprocAttr]; rfl) ?_
      refine pfail_ok C (x := 8) hA5.p fun w7 u1 u2 => ?_
      have h8 : rBad e1 8 = e2 := by
        rw [he2]; unfold rBad
        by_cases h0 : e1 = 0
        · rw [if_pos h0, if_pos ⟨h0, h4⟩]
        · rw [if_neg h0, if_neg (fun h => h0 h.1)]
      rw [h8] at u1
      refine WS_run 1000 (by simp only [go_sem, eRun_exit, simprocAttr]; rfl) ?_
      exact done (hA5.step hlt u1 u2) ⟨(by simp only [go_sem, eRun_exit, simprocAttr, f4] <;> rfl), (by simp only [go_sem, eRun_exit, simprocAttr] <;> rfl)⟩
    · have h4 : ¬ rules.length = 30 := by omega
      rw [if_neg (fun h => h4 h.2)] at he2
      subst he2
      refine WS_run 1000 (by simp only [go_sem, eRun_exit, simprocAttr, xl, evParts, fillV, hov, List.length_cons, List.length_nil, hel, a1, hlv, h30]; rfl) ?_
      exact done hA5 ⟨(by simp only [go_sem, eRun_exit, simprocAttr, f4] <;> rfl), (by simp only [go_sem, eRun_exit, simprocAttr] <;> rfl)⟩
  by_cases hkl : k = ws.length
  · have hdk : decide (k = ws.length) = true := decide_eq_true hkl
    cases wh with
    | true =>
      rw [hdk]
      have hst : fin = (rules, k, 0) := by
        rw [← hfin]
        cases q with
        | zero => rfl
        | succ q => simp only [rRules]; rw [if_neg (by omega)]
      refine WS_runB 1000 (by simp only [go_sem, simprocAttr]; rfl) ?_
      refine out _ _ _ ⟨rules, k, 0, v, rv, S, T, xss, ⟨(by simp only [go_sem, eRun_exit, simprocAttr, f4] <;> rfl), (by simp only [go_sem, eRun_exit, simprocAttr, f5] <;> rfl)⟩, hA, ?_, fun _ => ?_⟩ rfl
      · rw [hst]; rfl
      · rw [hst]
    | false =>
      rw [hdk]
      refine WS_runB 1000 (by simp only [go_sem, eRun_exit, simprocAttr]; rfl) ?_
      exact cl (fun _ => rfl) ⟨(by simp only [go_sem, eRun_exit, simprocAttr, f4] <;> rfl), (by simp only [go_sem, eRun_exit, simprocAttr, f5] <;> rfl)⟩
  · have hdk : decide (k = ws.length) = false := decide_eq_false hkl
    rw [hdk]
    refine WS_runB 1000 (by simp only [go_sem, eRun_exit, simprocAttr]; rfl) ?_
    exact cl (fun h => absurd h hkl) ⟨(by simp only [go_sem, eRun_exit, simprocAttr, f4] <;> rfl), (by simp only [go_sem, eRun_exit, simprocAttr, f5] <;> rfl)⟩
theorem sprogram_ok (C : Codes tab) (PI : Parses tab) (E : ExtIdx tab) {s : List Nat} {aw : AW} {K : V → AW → Prop} (hs : s.length ≤ 1099511627776) (hb : ∀ x ∈ s, x < 256)
    (h : ∀ w v T, RdL (RlC T) T w v 4 (rProgram s).1 → Frm (fun _ => False) aw w → (∀ x, T x → aw.next ≤ x ∧ x < w.next) → K (.tuple [v, .int .i64 (Int.ofNat (rProgram s).2)]) w) : WF tab n_syntax_Program [.str s] aw K := by
  refine WF_of C.c_syntax_Program rfl ?_
  refine WS_run 1000 (by simp only [go_sem, eRun_exit, simprocAttr, k_syntax_Program, k_syntax_Program_p5]; rfl) ?_
  refine WS_call (by simp only [go_sem, eRun_exit, simprocAttr]) (by simp only [go_sem, eRun_exit, simprocAttr]; rfl) ?_
  refine sopen_ok C E hb hs fun w1 bp v Tw p1 hok g1 hbp hTw => ?_
  have hbl := p1.cb.lt
  -- the end
  have fin : ∀ {fr : Fr} {w : AW} {rules : List Rl} {k e : Nat} {v rv : V} {S T : Nat → Prop} {xss : List (List V)}, SR Tw w1 w bp (openWs s) (openWh s) rules k e v rv S T xss → SRF fr bp rv → e = (rProgram s).2 → (e = 0 → rules = (rProgram s).1) → (e ≠ 0 → (rProgram s).1 = []) →
      WS tab [.code k_syntax_Program_p4] fr w (fun fr' aw' => ∃ vs, resV fr' aw' k_syntax_Program.results = some vs ∧ K (resOne vs) aw') := by
    rintro fr w rules k e v rv S T xss hA ⟨f4, f5⟩ he hr0 hr1
    have l2 := hA.p.l2
    have nx := hA.frm.next
    have n1 := g1.next
    have f3 : Frm (fun _ => False) aw w := g1.trans hA.frm (fun _ _ h => h) fun x hx h => by omega
    by_cases h0 : e = 0
    · rw [h0] at l2 he
      refine WS_run 1000 (by simp only [go_sem, eRun_exit, simprocAttr, k_syntax_Program_p4, f4, f5, l2]; rfl) ?_
      refine WS_ret ⟨_, by simp only [go_sem, eRun_exit, simprocAttr, k_syntax_Program]; rfl, ?_⟩
      rw [← hr0 h0, ← he] at h
      refine h w rv (fun x => S x ∨ T x) ⟨xss, hA.buf.rd.mono fun _ h => .inl h, hA.rls.imp fun r ys hr => hr.mono fun _ h => .inr h⟩ f3 ?_
      rintro x (hx | hx)
      · have := hA.sepS x hx; exact ⟨by omega, by omega⟩
      · have := hA.sepT x hx; exact ⟨by omega, by omega⟩
    · refine WS_run 1000 (by simp only [go_sem, eRun_exit, simprocAttr, k_syntax_Program_p4, k_syntax_Program_p3, f4, f5, l2, h0]; rfl) ?_
      refine WS_ret ⟨_, by simp only [go_sem, eRun_exit, simprocAttr, k_syntax_Program]; rfl, ?_⟩
      rw [hr1 h0, ← he] at h
      exact h w .nilslice (fun _ => False) ⟨[], .nil, .nil⟩ f3 fun _ h => h.elim
  have h0 : SR Tw w1 w1 bp (openWs s) (openWh s) [] 0 (openE s) v .nilslice (fun _ => False) (fun _ => False) [] := ⟨p1, Frm.refl _, .nil, .nil, fun _ h => h.elim, fun _ h => h.elim⟩
  refine WS_run 1000 (by simp only [go_sem, eRun_exit, simprocAttr]; rfl) ?_
  refine WS_loopJ (SRulI Tw w1 bp (openWs s) (openWh s) (rRules (openWs s) ((openWs s).length + 1) [] 0 (openE s))) (SRulJ Tw w1 bp (openWs s) (openWh s) (rRules (openWs s) ((openWs s).length + 1) [] 0 (openE s))) (fun n f w hI ih out => srule_step C PI hok (fun x hx => (hTw x hx).2) hbl hI ih out) ?_ _
    ⟨[], 0, openE s, (openWs s).length + 1, v, .nilslice, _, _, [], ⟨(by simp only [go_sem, eRun_exit, simprocAttr] <;> rfl), (by simp only [go_sem, eRun_exit, simprocAttr] <;> rfl)⟩, h0, by simp, rfl, fun h => ⟨by rw [h], by simp, by omega⟩, fun h => ?_⟩
  · rintro f w ⟨rules, k, e, v, rv, S, T, xss, hF, hA, he, hr⟩
    have hp : rProgram s = if e = 0 then (rules, 0) else ([], e) := by
      unfold rProgram
      by_cases hl : 4000 < s.length
      · simp only [openWs, openWh, openE, if_pos hl] at he ⊢
        have : e = 8 := by rw [he]; rfl
        rw [this]; rfl
      · simp only [openWs, openWh, openE, if_neg hl] at he hr ⊢
        rw [← he]
        by_cases h0 : e = 0
        · rw [if_pos h0, if_pos h0, hr h0]
        · rw [if_neg h0, if_neg h0]
    refine fin hA hF ?_ (fun h0 => ?_) fun h0 => ?_
    · rw [hp]; split
      · assumption
      · rfl
    · rw [hp, if_pos h0]
    · rw [hp, if_neg h0]
  · rw [rRules_stop (fun hh => h hh.1)]
    unfold rBad; rw [if_neg h]
end Go.Proofs.YtegdcbdicpfbpaaGreatDoor
set_option linter.unusedVariables false
set_option maxRecDepth 10000
set_option linter.unusedSimpArgs false
namespace Go.Proofs.YtegdcbdicpfbpaaGreatDoor.Val
open Go.AE Delphi
variable {tab : Tab}
theorem okc_num {t : Tk} (h : tkMay t = true) : t.n.natAbs ≤ 2147483648 := by
  unfold tkMay at h
  split at h
  · simp only [Bool.and_eq_true, decide_eq_true_eq] at h; omega
  · split at h
    · simp only [Bool.and_eq_true, decide_eq_true_eq] at h; omega
    · cases h
structure St2 (aw : AW) (a b : Tk) (w : AW) : Prop where
  a : CB w aw.next (tkC a)
  b : CB w (aw.next + 1) (tkC b)
  frm : Frm (fun _ => False) aw w
theorem St2.step {aw w w' : AW} {a b : Tk} (h : St2 aw a b w) (hf : Frm (fun _ => False) w w') : St2 aw a b w' := ⟨h.a.frm hf fun h => h, h.b.frm hf fun h => h, h.frm.tr hf⟩
theorem St2.la {aw w : AW} {a b : Tk} (h : St2 aw a b w) : w.load aw.next 0 3 = some (tkC a) := CB.ld h.a 0 3 _ rfl
theorem St2.lb {aw w : AW} {a b : Tk} (h : St2 aw a b w) : w.load (aw.next + 1) 0 3 = some (tkC b) := CB.ld h.b 0 3 _ rfl
theorem tkC_len (t : Tk) : (tkC t).length = 3 := rfl
theorem St2.set {aw w : AW} {a b a' b' : Tk} (h : St2 aw a b w) : ∃ w1 w2, w.store aw.next 0 (tkC a') = some w1 ∧ w1.store (aw.next + 1) 0 (tkC b') = some w2 ∧ St2 aw a' b' w2 := by
  have s1 := h.a.setAll (vs := tkC a') rfl rfl
  have d1 : CB _ aw.next _ := put_cb (l := tkC a') h.a.lt
  have f1 := put_frm (w := w) (b := aw.next) (l := tkC a')
  have d2 := h.b.frm f1 (by omega)
  have s2 := d2.setAll (vs := tkC b') rfl rfl
  have f2 := put_frm (w := w.put aw.next (tkC a')) (b := aw.next + 1) (l := tkC b')
  refine ⟨_, _, s1, s2, d1.frm f2 (by omega), put_cb d2.lt, ?_⟩
  refine (h.frm.trans f1 (fun _ _ h => h) ?_).trans f2 (fun _ _ h => h) ?_
  · rintro x hx rfl; omega
  · rintro x hx rfl; omega
end Go.Proofs.YtegdcbdicpfbpaaGreatDoor.Val
