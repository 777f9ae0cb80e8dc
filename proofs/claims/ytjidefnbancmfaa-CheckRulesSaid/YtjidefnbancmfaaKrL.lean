/- A part of the proof: PSyn8, W8, PChk1, PChk2, PChk3. -/
import Derived.Test.YtjidefnbancmfaaKrK
import Derived.Test.YtjidefnbancmfaaKrI
/- The reference's parser: programs. -/
set_option linter.unusedVariables false
set_option maxRecDepth 10000
set_option linter.unusedSimpArgs false
namespace Go.Proofs.Ytjidefnbancmfaa
open Go.AE Delphi
variable {tab : Tab}
structure RS (a0 w : AW) (bp : Nat) (wv : V) (rules : List Rl) (k e : Nat) (rv : V) (S T : Nat → Prop) (xss : List (List V)) : Prop where
  p : PSt w bp wv k e
  frm : Frm (fun b => b = bp) a0 w
  buf : Buf S w rv 4 rules.length xss.flatten
  rls : All2 (RlC T w) rules xss
  sepS : ∀ x, S x → a0.next ≤ x ∧ x < w.next ∧ ¬ T x
  sepT : ∀ x, T x → a0.next ≤ x ∧ x < w.next
structure RF (f : Fr) (bp : Nat) (v5 v7 : V) : Prop where
  f5 : f.get 5 = some v5
  f6 : f.get 6 = some (.ptr bp 0)
  f7 : f.get 7 = some v7
def RulI (a0 : AW) (bp : Nat) (wv : V) (ws : List Wd) (v5 : V) (fin : List Rl × Nat × Nat) (q : Nat) (f : Fr) (w : AW) : Prop :=
  ∃ rules k e rv S T xss, RF f bp v5 rv ∧ RS a0 w bp wv rules k e rv S T xss ∧ rules.length ≤ 31 ∧ k ≤ ws.length ∧ (e = 0 → ws.length + 1 ≤ q + k) ∧ rRules ws q rules k e = fin ∧ (e = 0 → rules.length ≤ 30)
def RulJ (a0 : AW) (bp : Nat) (wv : V) (v5 : V) (fin : List Rl × Nat × Nat) (f : Fr) (w : AW) : Prop :=
  ∃ rv S T xss, RF f bp v5 rv ∧ RS a0 w bp wv fin.1 fin.2.1 fin.2.2 rv S T xss
theorem rRules_stop {ws : List Wd} {q : Nat} {l : List Rl} {k e : Nat} (h : ¬ (e = 0 ∧ k < ws.length)) : rRules ws q l k e = (l, k, e) := by
  cases q with
  | zero => rfl
  | succ q => simp only [rRules, if_neg h]
theorem rule_step (C : Codes tab) {Tw : Nat → Prop} {a0 w : AW} {bp : Nat} {wv : V} {ws : List Wd} {v5 : V} {fin : List Rl × Nat × Nat} {q : Nat} {f : Fr} {s : List SI} {Q : Fr → AW → Prop} (hw : Wds Tw a0 bp wv ws) (hok : ∀ x ∈ ws, WOk x) (hT : ∀ x, Tw x → x < a0.next) (hlt : bp < a0.next)
    (hI : RulI a0 bp wv ws v5 fin q f w) (ih : ∀ n' f' w', n' < q → RulI a0 bp wv ws v5 fin n' f' w' → WS tab (.code (.loop k_ref8_Program_p12) :: .endB 0 :: s) f' w' Q)
    (out : ∀ s' f' w', RulJ a0 bp wv v5 fin f' w' → popTo 0 s' = some s → WS tab (.code (.exit 0) :: s') f' w' Q) : WS tab (.code k_ref8_Program_p12 :: .code (.loop k_ref8_Program_p12) :: .endB 0 :: s) f w Q := by
  obtain ⟨rules, k, e, rv, S, T, xss, ⟨f5, f6, f7⟩, hA, hl31, hk, hq, hfin, hl30⟩ := hI
  have l0 := hA.p.l0
  have l1 := hA.p.l1
  have l2 := hA.p.l2
  have hww : Wds Tw w bp wv ws := hw.frm hA.frm fun x hx he => hw.no (he ▸ hx)
  have hlv := hww.rd.lenV
  by_cases he : e = 0
  case neg =>
    rw [rRules_stop (fun h => he h.1)] at hfin
    refine WS_runB 1000 (by simp only [go_sem, Nat.reduceAdd, Nat.reduceLT, Nat.reduceEqDiff, reduceIte, reduceCtorEq, Int.reduceBEq, Int.reduceBNe, Int.reduceLT, Int.reduceLE, Int.reduceGT, Int.reduceGE, Int.reduceEq, Int.reduceAdd, Int.reduceSub, Int.reduceMul, Nat.reduceMul, Nat.reduceSub, Nat.reduceLeDiff, k_ref8_Program_p12, f6, l2, he]; rfl) ?_
    exact out _ _ _ ⟨rv, S, T, xss, ⟨(by simp only [go_sem, eRun_exit, Nat.reduceAdd, Nat.reduceLT, Nat.reduceEqDiff, reduceIte, reduceCtorEq, Int.reduceBEq, Int.reduceBNe, Int.reduceLT, Int.reduceLE, Int.reduceGT, Int.reduceGE, Int.reduceEq, Int.reduceAdd, Int.reduceSub, Int.reduceMul, Nat.reduceMul, Nat.reduceSub, Nat.reduceLeDiff, f5] <;> rfl), (by simp only [go_sem, eRun_exit, Nat.reduceAdd, Nat.reduceLT, Nat.reduceEqDiff, reduceIte, reduceCtorEq, Int.reduceBEq, Int.reduceBNe, Int.reduceLT, Int.reduceLE, Int.reduceGT, Int.reduceGE, Int.reduceEq, Int.reduceAdd, Int.reduceSub, Int.reduceMul, Nat.reduceMul, Nat.reduceSub, Nat.reduceLeDiff, f6] <;> rfl), (by simp only [go_sem, eRun_exit, Nat.reduceAdd, Nat.reduceLT, Nat.reduceEqDiff, reduceIte, reduceCtorEq, Int.reduceBEq, Int.reduceBNe, Int.reduceLT, Int.reduceLE, Int.reduceGT, Int.reduceGE, Int.reduceEq, Int.reduceAdd, Int.reduceSub, Int.reduceMul, Nat.reduceMul, Nat.reduceSub, Nat.reduceLeDiff, f7] <;> rfl)⟩, by rw [← hfin]; exact hA⟩ rfl
  subst he
  by_cases hkl : k < ws.length
  case neg =>
    rw [rRules_stop (fun h => hkl h.2)] at hfin
    refine WS_runB 1000 (by simp only [go_sem, Nat.reduceAdd, Nat.reduceLT, Nat.reduceEqDiff, reduceIte, reduceCtorEq, Int.reduceBEq, Int.reduceBNe, Int.reduceLT, Int.reduceLE, Int.reduceGT, Int.reduceGE, Int.reduceEq, Int.reduceAdd, Int.reduceSub, Int.reduceMul, Nat.reduceMul, Nat.reduceSub, Nat.reduceLeDiff, k_ref8_Program_p12, f6, l0, l1, l2, hlv, hkl]; rfl) ?_
    exact out _ _ _ ⟨rv, S, T, xss, ⟨(by simp only [go_sem, eRun_exit, Nat.reduceAdd, Nat.reduceLT, Nat.reduceEqDiff, reduceIte, reduceCtorEq, Int.reduceBEq, Int.reduceBNe, Int.reduceLT, Int.reduceLE, Int.reduceGT, Int.reduceGE, Int.reduceEq, Int.reduceAdd, Int.reduceSub, Int.reduceMul, Nat.reduceMul, Nat.reduceSub, Nat.reduceLeDiff, f5] <;> rfl), (by simp only [go_sem, eRun_exit, Nat.reduceAdd, Nat.reduceLT, Nat.reduceEqDiff, reduceIte, reduceCtorEq, Int.reduceBEq, Int.reduceBNe, Int.reduceLT, Int.reduceLE, Int.reduceGT, Int.reduceGE, Int.reduceEq, Int.reduceAdd, Int.reduceSub, Int.reduceMul, Nat.reduceMul, Nat.reduceSub, Nat.reduceLeDiff, f6] <;> rfl), (by simp only [go_sem, eRun_exit, Nat.reduceAdd, Nat.reduceLT, Nat.reduceEqDiff, reduceIte, reduceCtorEq, Int.reduceBEq, Int.reduceBNe, Int.reduceLT, Int.reduceLE, Int.reduceGT, Int.reduceGE, Int.reduceEq, Int.reduceAdd, Int.reduceSub, Int.reduceMul, Nat.reduceMul, Nat.reduceSub, Nat.reduceLeDiff, f7] <;> rfl)⟩, by rw [← hfin]; exact hA⟩ rfl
  have hl30 := hl30 rfl
  have hq := hq rfl
  obtain ⟨q, rfl⟩ : ∃ q', q = q' + 1 := ⟨q - 1, by omega⟩
  simp only [rRules] at hfin
  rw [if_pos ⟨trivial, hkl⟩] at hfin
  refine WS_runB 1000 (by simp only [go_sem, eRun_exit, Nat.reduceAdd, Nat.reduceLT, Nat.reduceEqDiff, reduceIte, reduceCtorEq, Int.reduceBEq, Int.reduceBNe, Int.reduceLT, Int.reduceLE, Int.reduceGT, Int.reduceGE, Int.reduceEq, Int.reduceAdd, Int.reduceSub, Int.reduceMul, Nat.reduceMul, Nat.reduceSub, Nat.reduceLeDiff, k_ref8_Program_p12, f6, l0, l1, l2, hlv, hkl]; rfl) ?_
  refine clause_step C (v5 := v5) (v7 := rv) hA.p hww hok (fun x hx => Nat.lt_of_lt_of_le (hT x hx) hA.frm.next) hk (by simp only [go_sem, eRun_exit, Nat.reduceAdd, Nat.reduceLT, Nat.reduceEqDiff, reduceIte, reduceCtorEq, Int.reduceBEq, Int.reduceBNe, Int.reduceLT, Int.reduceLE, Int.reduceGT, Int.reduceGE, Int.reduceEq, Int.reduceAdd, Int.reduceSub, Int.reduceMul, Nat.reduceMul, Nat.reduceSub, Nat.reduceLeDiff, f5] <;> rfl) (by simp only [go_sem, eRun_exit, Nat.reduceAdd, Nat.reduceLT, Nat.reduceEqDiff, reduceIte, reduceCtorEq, Int.reduceBEq, Int.reduceBNe, Int.reduceLT, Int.reduceLE, Int.reduceGT, Int.reduceGE, Int.reduceEq, Int.reduceAdd, Int.reduceSub, Int.reduceMul, Nat.reduceMul, Nat.reduceSub, Nat.reduceLeDiff, f6] <;> rfl) (by simp only [go_sem, eRun_exit, Nat.reduceAdd, Nat.reduceLT, Nat.reduceEqDiff, reduceIte, reduceCtorEq, Int.reduceBEq, Int.reduceBNe, Int.reduceLT, Int.reduceLE, Int.reduceGT, Int.reduceGE, Int.reduceEq, Int.reduceAdd, Int.reduceSub, Int.reduceMul, Nat.reduceMul, Nat.reduceSub, Nat.reduceLeDiff, f7] <;> rfl) ?_
  rintro f' w1 Tn xs n8 ⟨g5, g6, g7, g8⟩ q1 q2 c2 hn8 q3 q4
  have hk1 := rClause_le (e := 0) hk
  have hk1g := rClause_ge ws k 0
  have hgt := rClause_gt (ws := ws) (k := k) (e := 0)
  generalize hrt : rClause ws k 0 = rt at hfin q1 hk1 hk1g q3 hgt
  obtain ⟨t, k1, e1⟩ := rt
  simp only at hfin q1 hk1 hk1g q3 hgt
  obtain ⟨xl, xo⟩ := q3.one
  have nx := hA.frm.next
  have nx1 := q2.next
  have nS : ∀ x, S x → ¬ x = bp := fun x hx he => by have := (hA.sepS x hx).1; omega
  have nT : ∀ x, T x → ¬ x = bp := fun x hx he => by have := (hA.sepT x hx).1; omega
  have nTn : ∀ x, Tn x → ¬ x = bp := fun x hx he => by have := (q4 x hx).1; omega
  have m2 := q1.l2
  have buf1 := hA.buf.frm q2 nS
  have hlr := buf1.lenV
  have la := c2.all xl
  obtain ⟨e2, he2⟩ : ∃ e2, e2 = if e1 = 0 ∧ rules.length = 30 then 8 else e1 := ⟨_, rfl⟩
  rw [← he2] at hfin
  have cont : ∀ {fr : Fr} {w3 : AW}, BF fr bp n8 v5 rv → PSt w3 bp wv k1 e2 → Frm (fun b => b = bp) w1 w3 → WS tab (.code k_ref8_Program_p8 :: .endB 1 :: .code (.loop k_ref8_Program_p12) :: .endB 0 :: s) fr w3 Q := by
    rintro fr w3 ⟨f5, f6, f7, f8⟩ g1 g2
    have n3 := g2.next
    have buf3 := buf1.frm g2 nS
    have hn8b : ¬ n8 = bp := by omega
    have c3 := c2.frm g2 hn8b
    have hS3 : ∀ b, S b → b < w3.next := fun b hb => by have := (hA.sepS b hb).2.1; omega
    obtain ⟨v', w5, S5, a1, a2, a3, a4⟩ := buf3.push (news := xs) (bytes := 72) hS3 (by omega) xl xo (by omega) (by omega)
    have nbp : ¬ S bp := fun h => nS _ h rfl
    have n5 := a3.next
    have b2 := c3.all xl
    have b4 := elems_fresh (w := w3) (c := .known 1) (by omega : 0 < 1) (by rw [xl] : xs.length = 1 * 4)
    have nT2 : ∀ x, (T x ∨ Tn x) → ¬ x = bp := fun x hx => hx.elim (nT x) (nTn x)
    have nT3 : ∀ x, (T x ∨ Tn x) → ¬ S x := by
      rintro x (hx | hx) h
      · exact (hA.sepS x h).2.2 hx
      · have := (q4 x hx).1; have := (hA.sepS x h).2.1; omega
    have hov : over [V.int .i64 0, V.str [], V.nilslice, V.nilslice] 0 xs = some xs := by
      have := over_mid [] [V.int .i64 0, V.str [], V.nilslice, V.nilslice] [] xs (by rw [xl]; rfl)
      simpa using this
    have sT5 : ∀ x, T x ∨ Tn x → a0.next ≤ x ∧ x < w5.next := by
      rintro x (hx | hx)
      · have := hA.sepT x hx; exact ⟨this.1, by omega⟩
      · have := q4 x hx; exact ⟨by omega, by omega⟩
    have hA5 : RS a0 w5 bp wv (rules ++ [t]) k1 e2 v' S5 (fun x => T x ∨ Tn x) (xss ++ [xs]) := by
      refine ⟨g1.frm a3 nbp, ((hA.frm.tr q2).tr g2).trans a3 (fun _ _ h => h) (fun x hx h => by have := (hA.sepS x h).1; omega), ?_, ?_, fun x hx => ?_, sT5⟩
      · rw [List.length_append, List.length_singleton, List.flatten_append, List.flatten_cons, List.flatten_nil, List.append_nil]
        exact a2
      · refine All2.snoc (((q3.mono fun _ h => .inr h).frm g2 nT2).frm a3 nT3) ?_
        exact hA.rls.imp fun r ys hr => (((hr.frm q2 nT).mono fun _ h => .inl h).frm g2 nT2).frm a3 nT3
      · obtain ⟨m1, m2⟩ := a4 x hx
        rcases m2 with m2 | m2
        · obtain ⟨y1, y2, y3⟩ := hA.sepS x m2
          refine ⟨y1, m1, ?_⟩
          rintro (h | h)
          · exact y3 h
          · have := (q4 x h).1; omega
        · refine ⟨by omega, m1, ?_⟩
          rintro (h | h)
          · have := (hA.sepT x h).2; omega
          · have := (q4 x h).2.1; omega
    refine WS_run 1000 (by simp only [go_sem, eRun_exit, Nat.reduceAdd, Nat.reduceLT, Nat.reduceEqDiff, reduceIte, reduceCtorEq, Int.reduceBEq, Int.reduceBNe, Int.reduceLT, Int.reduceLE, Int.reduceGT, Int.reduceGE, Int.reduceEq, Int.reduceAdd, Int.reduceSub, Int.reduceMul, Nat.reduceMul, Nat.reduceSub, Nat.reduceLeDiff, k_ref8_Program_p8, f7, f8, b2, xl, evParts, fillV, hov, a1, b4, List.length_cons, List.length_nil]; rfl) ?_
    have e10 : e2 = 0 → e1 = 0 ∧ rules.length ≠ 30 := by
      intro h0
      rw [h0] at he2
      split at he2
      · omega
      · rename_i hn
        exact ⟨he2.symm, fun h => hn ⟨he2.symm, h⟩⟩
    exact ih q _ _ (by omega) ⟨rules ++ [t], k1, e2, v', S5, _, _, ⟨(by simp only [go_sem, eRun_exit, Nat.reduceAdd, Nat.reduceLT, Nat.reduceEqDiff, reduceIte, reduceCtorEq, Int.reduceBEq, Int.reduceBNe, Int.reduceLT, Int.reduceLE, Int.reduceGT, Int.reduceGE, Int.reduceEq, Int.reduceAdd, Int.reduceSub, Int.reduceMul, Nat.reduceMul, Nat.reduceSub, Nat.reduceLeDiff, f5] <;> rfl), (by simp only [go_sem, eRun_exit, Nat.reduceAdd, Nat.reduceLT, Nat.reduceEqDiff, reduceIte, reduceCtorEq, Int.reduceBEq, Int.reduceBNe, Int.reduceLT, Int.reduceLE, Int.reduceGT, Int.reduceGE, Int.reduceEq, Int.reduceAdd, Int.reduceSub, Int.reduceMul, Nat.reduceMul, Nat.reduceSub, Nat.reduceLeDiff, f6] <;> rfl), (by simp only [go_sem, eRun_exit, Nat.reduceAdd, Nat.reduceLT, Nat.reduceEqDiff, reduceIte, reduceCtorEq, Int.reduceBEq, Int.reduceBNe, Int.reduceLT, Int.reduceLE, Int.reduceGT, Int.reduceGE, Int.reduceEq, Int.reduceAdd, Int.reduceSub, Int.reduceMul, Nat.reduceMul, Nat.reduceSub, Nat.reduceLeDiff] <;> rfl)⟩, hA5, by rw [List.length_append, List.length_singleton]; omega, hk1, fun h0 => by have := hgt (e10 h0).1; omega, hfin, fun h0 => by have := (e10 h0).2; rw [List.length_append, List.length_singleton]; omega⟩
  by_cases h30 : e1 = 0 ∧ rules.length = 30
  · obtain ⟨rfl, h30⟩ := h30
    rw [h30] at hlr
    rw [if_pos ⟨rfl, h30⟩] at he2
    subst he2
    refine WS_run 1000 (by simp only [go_sem, eRun_exit, Nat.reduceAdd, Nat.reduceLT, Nat.reduceEqDiff, reduceIte, reduceCtorEq, Int.reduceBEq, Int.reduceBNe, Int.reduceLT, Int.reduceLE, Int.reduceGT, Int.reduceGE, Int.reduceEq, Int.reduceAdd, Int.reduceSub, Int.reduceMul, Nat.reduceMul, Nat.reduceSub, Nat.reduceLeDiff, k_ref8_Program_p9, k_ref8_Program_p7, g6, g7, m2, hlr]; rfl) ?_
    refine WS_call (by simp only [go_sem, eRun_exit, Nat.reduceAdd, Nat.reduceLT, Nat.reduceEqDiff, reduceIte, reduceCtorEq, Int.reduceBEq, Int.reduceBNe, Int.reduceLT, Int.reduceLE, Int.reduceGT, Int.reduceGE, Int.reduceEq, Int.reduceAdd, Int.reduceSub, Int.reduceMul, Nat.reduceMul, Nat.reduceSub, Nat.reduceLeDiff]) (by simp only [go_sem, eRun_exit, Nat.reduceAdd, Nat.reduceLT, Nat.reduceEqDiff, reduceIte, reduceCtorEq, Int.reduceBEq, Int.reduceBNe, Int.reduceLT, Int.reduceLE, Int.reduceGT, Int.reduceGE, Int.reduceEq, Int.reduceAdd, Int.reduceSub, Int.reduceMul, Nat.reduceMul, Nat.reduceSub, Nat.reduceLeDiff]; rfl) ?_
    refine bad_ok C (x := 8) q1 fun w3 u3 u4 u5 => ?_
    refine WS_runB 1000 (by simp only [go_sem, eRun_exit, Nat.reduceAdd, Nat.reduceLT, Nat.reduceEqDiff, reduceIte, reduceCtorEq, Int.reduceBEq, Int.reduceBNe, Int.reduceLT, Int.reduceLE, Int.reduceGT, Int.reduceGE, Int.reduceEq, Int.reduceAdd, Int.reduceSub, Int.reduceMul, Nat.reduceMul, Nat.reduceSub, Nat.reduceLeDiff]; rfl) ?_
    exact cont ⟨(by simp only [go_sem, eRun_exit, Nat.reduceAdd, Nat.reduceLT, Nat.reduceEqDiff, reduceIte, reduceCtorEq, Int.reduceBEq, Int.reduceBNe, Int.reduceLT, Int.reduceLE, Int.reduceGT, Int.reduceGE, Int.reduceEq, Int.reduceAdd, Int.reduceSub, Int.reduceMul, Nat.reduceMul, Nat.reduceSub, Nat.reduceLeDiff, g5] <;> rfl), (by simp only [go_sem, eRun_exit, Nat.reduceAdd, Nat.reduceLT, Nat.reduceEqDiff, reduceIte, reduceCtorEq, Int.reduceBEq, Int.reduceBNe, Int.reduceLT, Int.reduceLE, Int.reduceGT, Int.reduceGE, Int.reduceEq, Int.reduceAdd, Int.reduceSub, Int.reduceMul, Nat.reduceMul, Nat.reduceSub, Nat.reduceLeDiff, g6] <;> rfl), (by simp only [go_sem, eRun_exit, Nat.reduceAdd, Nat.reduceLT, Nat.reduceEqDiff, reduceIte, reduceCtorEq, Int.reduceBEq, Int.reduceBNe, Int.reduceLT, Int.reduceLE, Int.reduceGT, Int.reduceGE, Int.reduceEq, Int.reduceAdd, Int.reduceSub, Int.reduceMul, Nat.reduceMul, Nat.reduceSub, Nat.reduceLeDiff, g7] <;> rfl), (by simp only [go_sem, eRun_exit, Nat.reduceAdd, Nat.reduceLT, Nat.reduceEqDiff, reduceIte, reduceCtorEq, Int.reduceBEq, Int.reduceBNe, Int.reduceLT, Int.reduceLE, Int.reduceGT, Int.reduceGE, Int.reduceEq, Int.reduceAdd, Int.reduceSub, Int.reduceMul, Nat.reduceMul, Nat.reduceSub, Nat.reduceLeDiff, g8] <;> rfl)⟩ u3 u4
  · rw [if_neg h30] at he2
    subst he2
    by_cases h0 : e2 = 0
    · have h30' : ¬ rules.length = 30 := fun h => h30 ⟨h0, h⟩
      subst h0
      refine WS_runB 1000 (by simp only [go_sem, eRun_exit, Nat.reduceAdd, Nat.reduceLT, Nat.reduceEqDiff, reduceIte, reduceCtorEq, Int.reduceBEq, Int.reduceBNe, Int.reduceLT, Int.reduceLE, Int.reduceGT, Int.reduceGE, Int.reduceEq, Int.reduceAdd, Int.reduceSub, Int.reduceMul, Nat.reduceMul, Nat.reduceSub, Nat.reduceLeDiff, k_ref8_Program_p9, g6, g7, m2, hlr, h30']; rfl) ?_
      exact cont ⟨(by simp only [go_sem, eRun_exit, Nat.reduceAdd, Nat.reduceLT, Nat.reduceEqDiff, reduceIte, reduceCtorEq, Int.reduceBEq, Int.reduceBNe, Int.reduceLT, Int.reduceLE, Int.reduceGT, Int.reduceGE, Int.reduceEq, Int.reduceAdd, Int.reduceSub, Int.reduceMul, Nat.reduceMul, Nat.reduceSub, Nat.reduceLeDiff, g5] <;> rfl), (by simp only [go_sem, eRun_exit, Nat.reduceAdd, Nat.reduceLT, Nat.reduceEqDiff, reduceIte, reduceCtorEq, Int.reduceBEq, Int.reduceBNe, Int.reduceLT, Int.reduceLE, Int.reduceGT, Int.reduceGE, Int.reduceEq, Int.reduceAdd, Int.reduceSub, Int.reduceMul, Nat.reduceMul, Nat.reduceSub, Nat.reduceLeDiff, g6] <;> rfl), (by simp only [go_sem, eRun_exit, Nat.reduceAdd, Nat.reduceLT, Nat.reduceEqDiff, reduceIte, reduceCtorEq, Int.reduceBEq, Int.reduceBNe, Int.reduceLT, Int.reduceLE, Int.reduceGT, Int.reduceGE, Int.reduceEq, Int.reduceAdd, Int.reduceSub, Int.reduceMul, Nat.reduceMul, Nat.reduceSub, Nat.reduceLeDiff, g7] <;> rfl), (by simp only [go_sem, eRun_exit, Nat.reduceAdd, Nat.reduceLT, Nat.reduceEqDiff, reduceIte, reduceCtorEq, Int.reduceBEq, Int.reduceBNe, Int.reduceLT, Int.reduceLE, Int.reduceGT, Int.reduceGE, Int.reduceEq, Int.reduceAdd, Int.reduceSub, Int.reduceMul, Nat.reduceMul, Nat.reduceSub, Nat.reduceLeDiff, g8] <;> rfl)⟩ q1 (Frm.refl _)
    · refine WS_runB 1000 (by simp only [go_sem, eRun_exit, Nat.reduceAdd, Nat.reduceLT, Nat.reduceEqDiff, reduceIte, reduceCtorEq, Int.reduceBEq, Int.reduceBNe, Int.reduceLT, Int.reduceLE, Int.reduceGT, Int.reduceGE, Int.reduceEq, Int.reduceAdd, Int.reduceSub, Int.reduceMul, Nat.reduceMul, Nat.reduceSub, Nat.reduceLeDiff, k_ref8_Program_p9, g6, g7, m2, h0]; rfl) ?_
      exact cont ⟨(by simp only [go_sem, eRun_exit, Nat.reduceAdd, Nat.reduceLT, Nat.reduceEqDiff, reduceIte, reduceCtorEq, Int.reduceBEq, Int.reduceBNe, Int.reduceLT, Int.reduceLE, Int.reduceGT, Int.reduceGE, Int.reduceEq, Int.reduceAdd, Int.reduceSub, Int.reduceMul, Nat.reduceMul, Nat.reduceSub, Nat.reduceLeDiff, g5] <;> rfl), (by simp only [go_sem, eRun_exit, Nat.reduceAdd, Nat.reduceLT, Nat.reduceEqDiff, reduceIte, reduceCtorEq, Int.reduceBEq, Int.reduceBNe, Int.reduceLT, Int.reduceLE, Int.reduceGT, Int.reduceGE, Int.reduceEq, Int.reduceAdd, Int.reduceSub, Int.reduceMul, Nat.reduceMul, Nat.reduceSub, Nat.reduceLeDiff, g6] <;> rfl), (by simp only [go_sem, eRun_exit, Nat.reduceAdd, Nat.reduceLT, Nat.reduceEqDiff, reduceIte, reduceCtorEq, Int.reduceBEq, Int.reduceBNe, Int.reduceLT, Int.reduceLE, Int.reduceGT, Int.reduceGE, Int.reduceEq, Int.reduceAdd, Int.reduceSub, Int.reduceMul, Nat.reduceMul, Nat.reduceSub, Nat.reduceLeDiff, g7] <;> rfl), (by simp only [go_sem, eRun_exit, Nat.reduceAdd, Nat.reduceLT, Nat.reduceEqDiff, reduceIte, reduceCtorEq, Int.reduceBEq, Int.reduceBNe, Int.reduceLT, Int.reduceLE, Int.reduceGT, Int.reduceGE, Int.reduceEq, Int.reduceAdd, Int.reduceSub, Int.reduceMul, Nat.reduceMul, Nat.reduceSub, Nat.reduceLeDiff, g8] <;> rfl)⟩ q1 (Frm.refl _)
/-- Program. -/
theorem rprogram_ok (C : Codes tab) {s : List Nat} {aw : AW} {K : V → AW → Prop} (hs : s.length ≤ 1099511627776) (hb : ∀ x ∈ s, x < 256)
    (h : ∀ w v T, RdL (RlC T) T w v 4 (rProgram s).1 → Frm (fun _ => False) aw w → (∀ x, T x → aw.next ≤ x ∧ x < w.next) → K (.tuple [v, .int .i64 (Int.ofNat (rProgram s).2)]) w) : WF tab n_ref8_Program [.str s] aw K := by
  refine WF_of C.c_ref8_Program rfl ?_
  refine WS_run 1000 (by simp only [go_sem, eRun_exit, Nat.reduceAdd, Nat.reduceLT, Nat.reduceEqDiff, reduceIte, reduceCtorEq, Int.reduceBEq, Int.reduceBNe, Int.reduceLT, Int.reduceLE, Int.reduceGT, Int.reduceGE, Int.reduceEq, Int.reduceAdd, Int.reduceSub, Int.reduceMul, Nat.reduceMul, Nat.reduceSub, Nat.reduceLeDiff, k_ref8_Program, k_ref8_Program_p17]; rfl) ?_
  refine WS_call (by simp only [go_sem, eRun_exit, Nat.reduceAdd, Nat.reduceLT, Nat.reduceEqDiff, reduceIte, reduceCtorEq, Int.reduceBEq, Int.reduceBNe, Int.reduceLT, Int.reduceLE, Int.reduceGT, Int.reduceGE, Int.reduceEq, Int.reduceAdd, Int.reduceSub, Int.reduceMul, Nat.reduceMul, Nat.reduceSub, Nat.reduceLeDiff]) (by simp only [go_sem, eRun_exit, Nat.reduceAdd, Nat.reduceLT, Nat.reduceEqDiff, reduceIte, reduceCtorEq, Int.reduceBEq, Int.reduceBNe, Int.reduceLT, Int.reduceLE, Int.reduceGT, Int.reduceGE, Int.reduceEq, Int.reduceAdd, Int.reduceSub, Int.reduceMul, Nat.reduceMul, Nat.reduceSub, Nat.reduceLeDiff]; rfl) ?_
  refine rscan_ok C hs (fun hl => ?_) fun hl v aw' hown hext => ?_
  · have hr : rProgram s = ([], 8) := by unfold rProgram; rw [if_pos hl]
    rw [hr] at h
    refine WS_run 1000 (by simp only [go_sem, eRun_exit, Nat.reduceAdd, Nat.reduceLT, Nat.reduceEqDiff, reduceIte, reduceCtorEq, Int.reduceBEq, Int.reduceBNe, Int.reduceLT, Int.reduceLE, Int.reduceGT, Int.reduceGE, Int.reduceEq, Int.reduceAdd, Int.reduceSub, Int.reduceMul, Nat.reduceMul, Nat.reduceSub, Nat.reduceLeDiff, k_ref8_Program_p16, k_ref8_Program_p0]; rfl) ?_
    refine WS_ret ⟨_, by simp only [go_sem, eRun_exit, Nat.reduceAdd, Nat.reduceLT, Nat.reduceEqDiff, reduceIte, reduceCtorEq, Int.reduceBEq, Int.reduceBNe, Int.reduceLT, Int.reduceLE, Int.reduceGT, Int.reduceGE, Int.reduceEq, Int.reduceAdd, Int.reduceSub, Int.reduceMul, Nat.reduceMul, Nat.reduceSub, Nat.reduceLeDiff, k_ref8_Program]; rfl, ?_⟩
    exact h aw .nilslice (fun _ => False) ⟨[], .nil, .nil⟩ (Frm.refl _) fun _ h => h.elim
  obtain ⟨e0, he0⟩ : ∃ e0 : Nat, e0 = if (scan 0 s).2 = true then 0 else 4 := ⟨_, rfl⟩
  have hk0 : (if (scan 0 s).2 = true then (0 : Int) else 4) = Int.ofNat e0 := by rw [he0]; split <;> rfl
  rw [hk0]
  have h8 : ¬ e0 = 8 := by rw [he0]; split <;> omega
  obtain ⟨wl, wok⟩ := scan_wok hb
  have hr : rProgram s = if rBad (rRules (scan 0 s).1 ((scan 0 s).1.length + 1) [] 0 0).2.2 e0 = 0 then ((rRules (scan 0 s).1 ((scan 0 s).1.length + 1) [] 0 0).1, 0) else ([], rBad (rRules (scan 0 s).1 ((scan 0 s).1.length + 1) [] 0 0).2.2 e0) := by
    unfold rProgram; rw [if_neg (by omega), he0]
  rw [hr] at h
  clear hr he0 hk0
  generalize (scan 0 s).1 = ws at hown wl wok h
  have hrd := hown.rd
  have nx := hext.next
  obtain ⟨zs, hzs⟩ : ∃ zs, zs = [v, V.int .i64 0, V.int .i64 0] := ⟨_, rfl⟩
  have hov : over [V.nilslice, V.int .i64 0, V.int .i64 0] 0 [v] = some zs := by rw [hzs]; rfl
  have vc : v.cells = [v] := by rcases hrd.inv with ⟨rfl, _⟩ | ⟨_, _, _, rfl, _⟩ <;> rfl
  have f0 : Frm (fun _ => False) aw (aw'.fresh zs) := (hext.frm (S := fun _ => False) fun x hx hn => by omega).tr (fresh_frm _ _)
  have hp : PSt (aw'.fresh zs) aw'.next v 0 0 := by rw [hzs]; exact ⟨Nat.lt_succ_self _, AE.T.get_put_same⟩
  have hw : Wds (fun b => aw.next ≤ b ∧ b < aw'.next) (aw'.fresh zs) aw'.next v ws := ⟨hrd.frm (fresh_frm (S := fun _ => False) _ _) fun _ _ h => h, fun h => by omega, by omega⟩
  refine WS_run 1000 (by simp only [go_sem, eRun_exit, Nat.reduceAdd, Nat.reduceLT, Nat.reduceEqDiff, reduceIte, reduceCtorEq, Int.reduceBEq, Int.reduceBNe, Int.reduceLT, Int.reduceLE, Int.reduceGT, Int.reduceGE, Int.reduceEq, Int.reduceAdd, Int.reduceSub, Int.reduceMul, Nat.reduceMul, Nat.reduceSub, Nat.reduceLeDiff, k_ref8_Program_p16, k_ref8_Program_p15, h8, evParts, fillV, vc, hov, List.length_cons, List.length_nil]; rfl) ?_
  refine WS_loopJ (RulI (aw'.fresh zs) aw'.next v ws (.int .i64 (Int.ofNat e0)) (rRules ws (ws.length + 1) [] 0 0)) (RulJ (aw'.fresh zs) aw'.next v (.int .i64 (Int.ofNat e0)) (rRules ws (ws.length + 1) [] 0 0)) (fun n f w hI ih out => rule_step C hw wok (fun x hx => Nat.lt_succ_of_lt hx.2) (Nat.lt_succ_self _) hI ih out) ?_ (ws.length + 1)
    ⟨[], 0, 0, .nilslice, fun _ => False, fun _ => False, [], ⟨(by simp only [go_sem, eRun_exit, Nat.reduceAdd, Nat.reduceLT, Nat.reduceEqDiff, reduceIte, reduceCtorEq, Int.reduceBEq, Int.reduceBNe, Int.reduceLT, Int.reduceLE, Int.reduceGT, Int.reduceGE, Int.reduceEq, Int.reduceAdd, Int.reduceSub, Int.reduceMul, Nat.reduceMul, Nat.reduceSub, Nat.reduceLeDiff] <;> rfl), (by simp only [go_sem, eRun_exit, Nat.reduceAdd, Nat.reduceLT, Nat.reduceEqDiff, reduceIte, reduceCtorEq, Int.reduceBEq, Int.reduceBNe, Int.reduceLT, Int.reduceLE, Int.reduceGT, Int.reduceGE, Int.reduceEq, Int.reduceAdd, Int.reduceSub, Int.reduceMul, Nat.reduceMul, Nat.reduceSub, Nat.reduceLeDiff] <;> rfl), (by simp only [go_sem, eRun_exit, Nat.reduceAdd, Nat.reduceLT, Nat.reduceEqDiff, reduceIte, reduceCtorEq, Int.reduceBEq, Int.reduceBNe, Int.reduceLT, Int.reduceLE, Int.reduceGT, Int.reduceGE, Int.reduceEq, Int.reduceAdd, Int.reduceSub, Int.reduceMul, Nat.reduceMul, Nat.reduceSub, Nat.reduceLeDiff] <;> rfl)⟩, ⟨hp, Frm.refl _, .nil, .nil, fun _ h => h.elim, fun _ h => h.elim⟩, by simp, by omega, fun _ => by omega, rfl, by simp⟩
  rintro f w ⟨rv, S, T, xss, ⟨f5, f6, f7⟩, hA⟩
  generalize rRules ws (ws.length + 1) [] 0 0 = rr at hA h
  obtain ⟨rules, k, e⟩ := rr
  simp only at hA h
  refine WS_run 1000 (by simp only [go_sem, eRun_exit, Nat.reduceAdd, Nat.reduceLT, Nat.reduceEqDiff, reduceIte, reduceCtorEq, Int.reduceBEq, Int.reduceBNe, Int.reduceLT, Int.reduceLE, Int.reduceGT, Int.reduceGE, Int.reduceEq, Int.reduceAdd, Int.reduceSub, Int.reduceMul, Nat.reduceMul, Nat.reduceSub, Nat.reduceLeDiff, f5, f6]; rfl) ?_
  refine WS_call (by simp only [go_sem, eRun_exit, Nat.reduceAdd, Nat.reduceLT, Nat.reduceEqDiff, reduceIte, reduceCtorEq, Int.reduceBEq, Int.reduceBNe, Int.reduceLT, Int.reduceLE, Int.reduceGT, Int.reduceGE, Int.reduceEq, Int.reduceAdd, Int.reduceSub, Int.reduceMul, Nat.reduceMul, Nat.reduceSub, Nat.reduceLeDiff]) (by simp only [go_sem, eRun_exit, Nat.reduceAdd, Nat.reduceLT, Nat.reduceEqDiff, reduceIte, reduceCtorEq, Int.reduceBEq, Int.reduceBNe, Int.reduceLT, Int.reduceLE, Int.reduceGT, Int.reduceGE, Int.reduceEq, Int.reduceAdd, Int.reduceSub, Int.reduceMul, Nat.reduceMul, Nat.reduceSub, Nat.reduceLeDiff]; rfl) ?_
  refine bad_ok C (x := e0) hA.p fun w3 u3 u4 u5 => ?_
  have l2 := u3.l2
  have n4 := u4.next
  have nn : (aw'.fresh zs).next = aw'.next + 1 := rfl
  have fr3 : Frm (fun _ => False) aw w3 := by
    refine f0.trans (hA.frm.tr u4) (fun _ _ h => h) ?_
    rintro x hx rfl; omega
  by_cases hz : rBad e e0 = 0
  · rw [if_pos hz] at h
    rw [hz] at l2
    refine WS_run 1000 (by simp only [go_sem, eRun_exit, Nat.reduceAdd, Nat.reduceLT, Nat.reduceEqDiff, reduceIte, reduceCtorEq, Int.reduceBEq, Int.reduceBNe, Int.reduceLT, Int.reduceLE, Int.reduceGT, Int.reduceGE, Int.reduceEq, Int.reduceAdd, Int.reduceSub, Int.reduceMul, Nat.reduceMul, Nat.reduceSub, Nat.reduceLeDiff, k_ref8_Program_p14, f6, f7, l2]; rfl) ?_
    refine WS_ret ⟨_, by simp only [go_sem, eRun_exit, Nat.reduceAdd, Nat.reduceLT, Nat.reduceEqDiff, reduceIte, reduceCtorEq, Int.reduceBEq, Int.reduceBNe, Int.reduceLT, Int.reduceLE, Int.reduceGT, Int.reduceGE, Int.reduceEq, Int.reduceAdd, Int.reduceSub, Int.reduceMul, Nat.reduceMul, Nat.reduceSub, Nat.reduceLeDiff, k_ref8_Program]; rfl, ?_⟩
    have nS : ∀ x, S x → ¬ x = aw'.next := fun x hx he => by have := (hA.sepS x hx).1; omega
    have nT : ∀ x, T x → ¬ x = aw'.next := fun x hx he => by have := (hA.sepT x hx).1; omega
    refine h w3 rv (fun x => S x ∨ T x) ⟨xss, (hA.buf.rd.frm u4 nS).mono fun _ h => .inl h, hA.rls.imp fun r ys hr => (hr.frm u4 nT).mono fun _ h => .inr h⟩ fr3 ?_
    rintro x (hx | hx)
    · have := hA.sepS x hx; exact ⟨by omega, by omega⟩
    · have := hA.sepT x hx; exact ⟨by omega, by omega⟩
  · rw [if_neg hz] at h
    refine WS_run 1000 (by simp only [go_sem, eRun_exit, Nat.reduceAdd, Nat.reduceLT, Nat.reduceEqDiff, reduceIte, reduceCtorEq, Int.reduceBEq, Int.reduceBNe, Int.reduceLT, Int.reduceLE, Int.reduceGT, Int.reduceGE, Int.reduceEq, Int.reduceAdd, Int.reduceSub, Int.reduceMul, Nat.reduceMul, Nat.reduceSub, Nat.reduceLeDiff, k_ref8_Program_p14, k_ref8_Program_p13, f6, f7, l2, hz]; rfl) ?_
    refine WS_ret ⟨_, by simp only [go_sem, eRun_exit, Nat.reduceAdd, Nat.reduceLT, Nat.reduceEqDiff, reduceIte, reduceCtorEq, Int.reduceBEq, Int.reduceBNe, Int.reduceLT, Int.reduceLE, Int.reduceGT, Int.reduceGE, Int.reduceEq, Int.reduceAdd, Int.reduceSub, Int.reduceMul, Nat.reduceMul, Nat.reduceSub, Nat.reduceLeDiff, k_ref8_Program]; rfl, ?_⟩
    exact h w3 .nilslice (fun _ => False) ⟨[], .nil, .nil⟩ fr3 fun _ h => h.elim
end Go.Proofs.Ytjidefnbancmfaa

set_option linter.unusedVariables false
set_option linter.unusedSimpArgs false
set_option linter.unusedSectionVars false
namespace Go.AE
theorem cells_map {b : Nat} : (V.map b).cells = [.map b] := rfl
theorem cells_nilmap : V.nilmap.cells = [.nilmap] := rfl
theorem cells_func {f : Fn} {a c : List V} : (V.func f a c).cells = [.func f a c] := rfl
theorem cells_iface {t : Nat} {v : V} : (V.iface t v).cells = [.iface t v] := rfl
theorem cells_niliface : V.niliface.cells = [.niliface] := rfl
attribute [go_sem] cells_map cells_nilmap cells_func cells_iface cells_niliface
section
variable {α β : Type} [DecidableEq α]
/-- what stands at a key. -/
def aget : List (α × β) → α → Option β
  | [], _ => none
  | (a, b) :: l, k => if k = a then some b else aget l k
/-- a value put at a key: in its place, or behind. -/
def aput : List (α × β) → α → β → List (α × β)
  | [], k, v => [(k, v)]
  | (a, b) :: l, k, v => if k = a then (a, v) :: l else (a, b) :: aput l k v
theorem aget_put_same : ∀ (l : List (α × β)) (k : α) (v : β), aget (aput l k v) k = some v
  | [], k, v => by simp [aput, aget]
  | (a, b) :: l, k, v => by
    by_cases h : k = a
    · simp [aput, aget, h]
    · simp only [aput, if_neg h, aget]; exact aget_put_same l k v
theorem aget_put_ne : ∀ (l : List (α × β)) (k k' : α) (v : β), k' ≠ k → aget (aput l k v) k' = aget l k'
  | [], k, k', v, h => by simp [aput, aget, h]
  | (a, b) :: l, k, k', v, h => by
    by_cases hk : k = a
    · subst hk; simp [aput, aget, h]
    · simp only [aput, if_neg hk, aget, aget_put_ne l k k' v h]
/-- how keys stand as values. -/
structure KeyE (t : KeyTy) (ke : α → V) : Prop where
  eq : ∀ a b, eqKey t (ke a) (ke b) = some (decide (a = b))
  ok : ∀ a, keyOk t (ke a) = true
def MRel (ke : α → V) (ve : β → V) (p : α × β) (e : V × V × Nat) : Prop := e.1 = ke p.1 ∧ e.2.1 = ve p.2
/-- a map's block. -/
structure MB (ke : α → V) (ve : β → V) (w : AW) (b : Nat) (M : List (α × β)) : Prop where
  lt : b < w.next
  get : ∃ es ck, w.heap.get b = some (.map es ck) ∧ All2 (MRel ke ve) M es
variable {ke : α → V} {ve : β → V} {t : KeyTy}
/-- what a look comes to. -/
def mres (ve : β → V) (zero : V) : Option β → V × Bool
  | some v => (ve v, true)
  | none => (zero, false)
theorem MB.frm {S : Nat → Prop} {w w' : AW} {b : Nat} {M : List (α × β)} (h : MB ke ve w b M) (hf : Frm S w w') (hn : ¬ S b) : MB ke ve w' b M := by
  obtain ⟨es, ck, h1, h2⟩ := h.get
  exact ⟨Nat.lt_of_lt_of_le h.lt hf.next, es, ck, (hf.heap b h.lt hn).trans h1, h2⟩
theorem findE_map (hk : KeyE t ke) {k : α} : ∀ {M : List (α × β)} {es : List (V × V × Nat)} (i : Nat), All2 (MRel ke ve) M es →
    (aget M k = none → findE t (ke k) es i = some none) ∧ ∀ v, aget M k = some v → ∃ j n, findE t (ke k) es i = some (some (i + j, ve v, n)) ∧ ∀ v', All2 (MRel ke ve) (aput M k v') (setE j (ke k) (ve v') es)
  | [], _, i, .nil => ⟨fun _ => rfl, fun v h => by simp [aget] at h⟩
  | (a, b) :: M, (x, y, n) :: es, i, .cons h1 h2 => by
    obtain ⟨q1, q2⟩ := h1
    simp only at q1 q2
    subst q1; subst q2
    by_cases h : k = a
    · subst h
      refine ⟨fun hn => by simp [aget] at hn, fun v hv => ?_⟩
      simp only [aget, if_true, Option.some.injEq] at hv
      subst hv
      refine ⟨0, n, by simp only [findE, hk.eq, decide_true, Nat.add_zero], fun v' => ?_⟩
      simp only [aput, if_true, setE, List.getElem?_cons_zero, List.set_cons_zero]
      exact .cons ⟨rfl, rfl⟩ h2
    · obtain ⟨r1, r2⟩ := findE_map hk (k := k) (i + 1) h2
      refine ⟨fun hn => ?_, fun v hv => ?_⟩
      · simp only [aget, if_neg h] at hn
        simp only [findE, hk.eq, decide_eq_false h]
        exact r1 hn
      · simp only [aget, if_neg h] at hv
        obtain ⟨j, m, s1, s2⟩ := r2 v hv
        refine ⟨j + 1, m, ?_, fun v' => ?_⟩
        · simp only [findE, hk.eq, decide_eq_false h]
          rw [s1]; congr 3; omega
        · have := s2 v'
          simp only [aput, if_neg h]
          have e : setE (j + 1) (ke k) (ve v') ((ke a, ve b, n) :: es) = (ke a, ve b, n) :: setE j (ke k) (ve v') es := by
            simp only [setE, List.getElem?_cons_succ]
            split <;> simp
          rw [e]
          exact .cons ⟨rfl, rfl⟩ this
theorem MB.look (hk : KeyE t ke) {w : AW} {b : Nat} {M : List (α × β)} (h : MB ke ve w b M) (zero : V) (k : α) : w.lookV t zero (.map b) (ke k) = some (mres ve zero (aget M k)) := by
  obtain ⟨es, ck, h1, h2⟩ := h.get
  obtain ⟨r1, r2⟩ := findE_map hk (k := k) 0 h2
  simp only [AW.lookV, AW.entries, h1, hk.ok]
  cases hg : aget M k with
  | none => simp only [r1 hg, mres]
  | some v => obtain ⟨j, n, s1, _⟩ := r2 v hg; simp only [s1, mres]
theorem aput_none : ∀ {M : List (α × β)} {k : α}, aget M k = none → ∀ v, aput M k v = M ++ [(k, v)]
  | [], k, _, v => rfl
  | (a, b) :: M, k, h, v => by
    simp only [aget] at h
    split at h
    · cases h
    · rename_i hn
      simp only [aput, if_neg hn, aput_none h v, List.cons_append]
theorem mturn_frm {w : AW} {b : Nat} {es : List (V × V × Nat)} {ck : Nat} : Frm (fun x => x = b) w (w.turn b (.map es ck)) :=
  ⟨Nat.le_refl _, fun c hc hn => T.get_put_ne hn, fun c hc hn => rfl⟩
theorem MB.put (hk : KeyE t ke) {w : AW} {b : Nat} {M : List (α × β)} (h : MB ke ve w b M) (k : α) (v : β) : ∃ w', w.putV t (.map b) (ke k) (ve v) = some w' ∧ MB ke ve w' b (aput M k v) ∧ Frm (fun x => x = b) w w' ∧ w'.next = w.next := by
  obtain ⟨es, ck, h1, h2⟩ := h.get
  obtain ⟨r1, r2⟩ := findE_map hk (k := k) 0 h2
  simp only [AW.putV, AW.entries, h1, hk.ok]
  cases hg : aget M k with
  | none =>
    refine ⟨w.turn b (.map (es ++ [(ke k, ve v, ck)]) (ck + 1)), by simp only [r1 hg], ⟨h.lt, _, _, T.get_put_same, ?_⟩, mturn_frm, rfl⟩
    rw [aput_none hg]
    exact h2.snoc ⟨rfl, rfl⟩
  | some u =>
    obtain ⟨j, n, s1, s2⟩ := r2 u hg
    refine ⟨w.turn b (.map (setE j (ke k) (ve v) es) ck), ?_, ⟨h.lt, _, _, T.get_put_same, s2 v⟩, mturn_frm, rfl⟩
    simp only [s1, Nat.zero_add]
theorem MB.len {w : AW} {b : Nat} {M : List (α × β)} (h : MB ke ve w b M) : ∃ es ck, w.entries (.map b) = some (some b, es, ck) ∧ es.length = M.length := by
  obtain ⟨es, ck, h1, h2⟩ := h.get
  exact ⟨es, ck, by simp only [AW.entries, h1], h2.len.symm⟩
theorem MB.new (w : AW) : MB ke ve (w.new (.map [] 0)) w.next ([] : List (α × β)) := ⟨Nat.lt_succ_self _, [], 0, T.get_put_same, .nil⟩
end
theorem mnew_frm {S : Nat → Prop} (w : AW) : Frm S w (w.new (.map [] 0)) := Frm.new w _
theorem strKey : KeyE (.scalar .str) V.str := ⟨fun a b => by
  show some (eqL a b) = _
  congr 1
  by_cases h : a = b
  · rw [decide_eq_true h]; exact eqL_iff.2 h
  · rw [decide_eq_false h]
    cases hc : eqL a b with
    | false => rfl
    | true => exact absurd (eqL_iff.1 hc) h, fun _ => rfl⟩
/-- a slice of one's own that fills its block. -/
inductive Bt (S : Nat → Prop) (w : AW) : V → Nat → Nat → List V → Prop
  | nil {esz : Nat} : Bt S w .nilslice esz 0 []
  | blk {b n esz : Nat} {cs : List V} {sh : Share} (hS : S b) (hb : b < w.next) (hx : w.heap.get b = some (.cells cs sh)) (hl : cs.length = n * esz) (he : 0 < esz) (hn : 0 < n) (hs : Shr S w b sh) : Bt S w (.slice b 0 n (.upTo esz)) esz n cs
theorem Bt.buf {S : Nat → Prop} {w : AW} {v : V} {esz n : Nat} {cs : List V} (h : Bt S w v esz n cs) : Buf S w v esz n cs := by
  cases h with
  | nil => exact .nil
  | blk hS hb hx hl he hn hs => exact .blk (r := 0) (rest := []) hS hb (by rw [List.append_nil]; exact hx) hl (by simp) he (by omega) hs
theorem Bt.mono {S S' : Nat → Prop} {w : AW} {v : V} {esz n : Nat} {cs : List V} (h : Bt S w v esz n cs) (hs : ∀ x, S x → S' x) : Bt S' w v esz n cs := by
  cases h with
  | nil => exact .nil
  | blk hS hb hx hl he hn hsh => exact .blk (hs _ hS) hb hx hl he hn (hsh.mono hs)
theorem Bt.frm {S T : Nat → Prop} {w w' : AW} {v : V} {esz n : Nat} {cs : List V} (h : Bt S w v esz n cs) (hf : Frm T w w') (hd : ∀ x, S x → ¬ T x) : Bt S w' v esz n cs := by
  cases h with
  | nil => exact .nil
  | blk hS hb hx hl he hn hsh => exact .blk hS (Nat.lt_of_lt_of_le hb hf.next) ((hf.heap _ hb (hd _ hS)).trans hx) hl he hn (hsh.frm hf hd)
theorem Bt.len {S : Nat → Prop} {w : AW} {v : V} {esz n : Nat} {cs : List V} (h : Bt S w v esz n cs) : cs.length = n * esz := h.buf.len
theorem Bt.rd {S : Nat → Prop} {w : AW} {v : V} {esz n : Nat} {cs : List V} (h : Bt S w v esz n cs) : Rd S w v esz n cs := h.buf.rd
theorem Bt.lenV {S : Nat → Prop} {w : AW} {v : V} {esz n : Nat} {cs : List V} (h : Bt S w v esz n cs) : lenV v = some n := h.buf.lenV
theorem Bt.one {S : Nat → Prop} {w : AW} {v : V} {esz n : Nat} {cs : List V} (h : Bt S w v esz n cs) : v.one = true ∧ v.cells = [v] := by cases h <;> exact ⟨rfl, rfl⟩
theorem Bt.inv {S : Nat → Prop} {w : AW} {v : V} {esz n : Nat} {cs : List V} (h : Bt S w v esz n cs) : (v = .nilslice ∧ n = 0 ∧ cs = []) ∨ ∃ b, v = .slice b 0 n (.upTo esz) ∧ S b ∧ b < w.next := h.buf.inv
/-- some more elements. -/
theorem Bt.addN {S : Nat → Prop} {w : AW} {v : V} {esz n k bytes : Nat} {cs news : List V} (h : Bt S w v esz n cs) (he : 0 < esz) (hl : news.length = k * esz) (h1 : allOne news = true) (hb : (n + k) * bytes ≤ 70368744177664) (hb' : n + k ≤ 70368744177664) :
    ∃ v' w' S', w.appendV esz bytes v k news = some (v', w') ∧ Bt S' w' v' esz (n + k) (cs ++ news) ∧ Frm S w w' ∧ Grown S S' w w' := by
  cases k with
  | zero =>
    have : news = [] := List.length_eq_zero_iff.1 (by simpa using hl)
    subst this
    refine ⟨v, w, fun x => S x ∧ x < w.next, ?_, ?_, Frm.refl _, fun b hb => ⟨hb.2, .inl hb.1⟩⟩
    · cases h <;> rfl
    · rw [List.append_nil, Nat.add_zero]
      cases h with
      | nil => exact .nil
      | blk hS hbw hx hlen he' hn hs =>
        refine .blk ⟨hS, hbw⟩ hbw hx hlen he' hn ?_
        rcases hs with rfl | rfl | ⟨f, F, rfl, q1, q2, q3⟩
        · exact .inl rfl
        · exact .inr (.inl rfl)
        · exact .inr (.inr ⟨f, F, rfl, ⟨q1, q2⟩, q2, q3⟩)
  | succ k =>
    cases h with
    | nil =>
      refine ⟨.slice w.next 0 (k + 1) (.upTo esz), w.fresh news, fun b => b = w.next, ?_, ?_, Frm.new _ _, ?_⟩
      · simp only [AW.appendV]; rw [if_pos ⟨by simpa using hb, by omega⟩]
      · rw [Nat.zero_add]; exact .blk rfl (Nat.lt_succ_self _) T.get_put_same (by simpa using hl) he (by omega) (.inl rfl)
      · rintro b rfl; exact ⟨Nat.lt_succ_self _, .inr (Nat.le_refl _)⟩
    | @blk b _ _ _ sh hS hbw hx hlen he' hn hs =>
      have happ : w.appendV esz bytes (.slice b 0 n (.upTo esz)) (k + 1) news = w.appendUp esz b 0 n (k + 1) news := if_pos ⟨rfl, hb, hb', h1, he⟩
      rw [happ]
      have hbeq : Nat.beq (0 + n * esz) cs.length = true := by rw [Nat.zero_add, hlen, Nat.beq_refl]
      have fam : ∀ (u : AW) (f : Nat) (F : Fam), w.next ≤ u.next → Frm S w u → u.heap.get b = some (.cells cs (.fam f)) → (S f ∨ w.next ≤ f) → f < u.next → b < u.next → u.fams.get f = some F → F.last = b → F.floor ≤ u.next → u.alive b (.fam f) = true →
          ∃ v' w' S', u.appendFam esz b 0 n (k + 1) news = some (v', w') ∧ Bt S' w' v' esz (n + (k + 1)) (cs ++ news) ∧ Frm S w w' ∧ Grown S S' w w' := by
        intro u f F hle hfu hx hSf hfl hbu hF hlast hflo hal
        refine ⟨.slice u.next 0 (n + (k + 1)) (.upTo esz), u.grow b f F (cs.drop 0 ++ news), fun x => x = u.next ∨ x = f, ?_, ?_, ?_, ?_⟩
        · simp only [AW.appendFam, hx, hal, hF, hbeq]
        · have hg : (u.grow b f F (cs.drop 0 ++ news)).fams.get f = some ⟨F.keep, F.floor, u.next⟩ := by
            simp only [AW.grow, T.get_putk, if_true, hlast, Nat.beq_refl]
          refine .blk (sh := .fam f) (.inl rfl) (Nat.lt_succ_self _) ?_ ?_ he (by omega) (.inr (.inr ⟨f, ⟨F.keep, F.floor, u.next⟩, rfl, .inr rfl, Nat.lt_succ_of_lt hfl, hg, rfl, Nat.le_succ_of_le hflo, ?_⟩))
          · simp only [AW.grow, T.get_putk, if_true, List.drop_zero]
          · rw [List.length_append, hlen, hl, Nat.add_mul n]
          · simp only [AW.alive, hg, Bool.or_eq_true]
            exact .inr (Nat.ble_eq_true_of_le hflo)
        · refine hfu.trans (T := fun x => x = f ∨ u.next ≤ x) ⟨Nat.le_succ _, fun c hc hn => T.get_put_ne (by omega), fun c hc hn => T.get_put_ne fun e => hn (.inl e)⟩ (fun x hx h => h) ?_
          rintro x hx (rfl | h)
          · rcases hSf with h | h
            · exact h
            · omega
          · omega
        · rintro x (rfl | rfl)
          · exact ⟨Nat.lt_succ_self _, .inr hle⟩
          · exact ⟨Nat.lt_succ_of_lt hfl, hSf⟩
      have fnd : sh = .own ∨ sh = .lax → ∃ v' w' S', (w.found b cs).appendFam esz b 0 n (k + 1) news = some (v', w') ∧ Bt S' w' v' esz (n + (k + 1)) (cs ++ news) ∧ Frm S w w' ∧ Grown S S' w w' := by
        intro _
        refine fam (w.found b cs) w.next ⟨b, w.next + 1, b⟩ (Nat.le_succ _) ⟨Nat.le_succ _, fun c hc hn => T.get_put_ne fun e => hn (e ▸ hS), fun c hc hn => T.get_put_ne (by omega)⟩ T.get_put_same (.inr (Nat.le_refl _)) (Nat.lt_succ_self _) (Nat.lt_succ_of_lt hbw) T.get_put_same rfl (Nat.le_refl _) ?_
        simp only [AW.alive, AW.found, T.get_putk, if_true, Nat.beq_refl, Bool.true_or]
      simp only [AW.appendUp, hx, hbeq]
      rcases hs with rfl | rfl | ⟨f, F, rfl, g1, g2, g3, g4, g6, g5⟩
      · exact fnd (.inl rfl)
      · exact fnd (.inr rfl)
      · exact fam w f F (Nat.le_refl _) (Frm.refl _) hx (.inl g1) g2 hbw g3 g4 g6 g5
theorem Bt.push {S : Nat → Prop} {w : AW} {v : V} {esz n bytes : Nat} {cs news : List V} (h : Bt S w v esz n cs) (hS : ∀ b, S b → b < w.next) (he : 0 < esz) (hl : news.length = esz) (h1 : allOne news = true) (hb : (n + 1) * bytes ≤ 70368744177664) (hb' : n + 1 ≤ 70368744177664) :
    ∃ v' w' S', (w.fresh news).appendV esz bytes v 1 news = some (v', w') ∧ Bt S' w' v' esz (n + 1) (cs ++ news) ∧ Frm S w w' ∧ Grown S S' w w' := by
  have hx : Frm (fun _ => False) w (w.fresh news) := Frm.new _ _
  obtain ⟨v', w', S', h2, h3, h4, h5⟩ := (h.frm hx fun _ _ h => h).addN (news := news) (k := 1) (bytes := bytes) he (by omega) h1 hb hb'
  refine ⟨v', w', S', h2, h3, hx.trans h4 (fun _ _ h => h.elim) fun _ _ h => h, fun b hb => ?_⟩
  obtain ⟨q1, q2⟩ := h5 b hb
  exact ⟨q1, q2.imp id fun h => Nat.le_trans hx.next h⟩
end Go.AE

/- check.Vars: the variables of terms, each once. -/
set_option linter.unusedVariables false
set_option maxRecDepth 10000
set_option linter.unusedSimpArgs false
namespace Delphi
/-- the variables of terms, from the left, each once. -/
def addVar (out : List (List Nat)) (t : Tm) : List (List Nat) := if t.kind = 1 ∧ t.name ∉ out then out ++ [t.name] else out
def cVars (l : List Tm) : List (List Nat) := l.foldl addVar []
theorem addVar_len (out : List (List Nat)) (t : Tm) : (addVar out t).length ≤ out.length + 1 := by
  unfold addVar; split <;> simp
theorem cVars_len (l : List Tm) : (cVars l).length ≤ l.length := by
  have : ∀ (l : List Tm) (out : List (List Nat)), (l.foldl addVar out).length ≤ out.length + l.length := by
    intro l
    induction l with
    | nil => intro out; simp
    | cons t l ih =>
      intro out
      rw [List.foldl_cons, List.length_cons]
      have := ih (addVar out t)
      have := addVar_len out t
      omega
  simpa [cVars] using this l []
end Delphi
namespace Go.Proofs.Ytjidefnbancmfaa
open Go.AE Delphi
variable {tab : Tab}
theorem tms_at {T : Nat → Prop} {w : AW} {v : V} {l : List Tm} (h : Rd T w v 3 l.length (tmsC l)) {i : Nat} {t : Tm} (hi : l[i]? = some t) : ∃ b o c, v = .slice b o l.length c ∧ T b ∧ b < w.next ∧ w.load b (o + i * 3) 3 = some (tmC t) ∧ w.load b (o + i * 3) 1 = some [.int .i64 (Int.ofNat t.kind)] ∧ w.load b (o + i * 3 + 1) 1 = some [.str t.name] := by
  have hlt : i < l.length := (List.getElem?_eq_some_iff.1 hi).1
  rcases h.inv with ⟨_, q2, _⟩ | ⟨b, o, c, rfl, hB⟩
  · omega
  · have part : ∀ j k, j + k ≤ 3 → w.load b (o + i * 3 + j) k = some (((tmC t).drop j).take k) := by
      intro j k hjk
      rw [Nat.add_assoc, hB.load (i * 3 + j) k (by omega)]
      have h2 := flat_part tmC_len (i := i) (j := j) (k := k) hi hjk
      rw [Nat.zero_add] at h2
      exact congrArg some h2
    exact ⟨b, o, c, rfl, hB.own, hB.lt, part 0 3 (by omega), part 0 1 (by omega), part 1 1 (by omega)⟩
theorem lits_at {T : Nat → Prop} {w : AW} {v : V} {l : List Lt} (h : RdL (LtC T) T w v 3 l) {i : Nat} {t : Lt} (hi : l[i]? = some t) : ∃ b o c u, v = .slice b o l.length c ∧ T b ∧ b < w.next ∧ w.load b (o + i * 3) 3 = some [.int .i64 (Int.ofNat t.kind), .str t.name, u] ∧ w.load b (o + i * 3) 1 = some [.int .i64 (Int.ofNat t.kind)] ∧ w.load b (o + i * 3 + 1) 1 = some [.str t.name] ∧ w.load b (o + i * 3 + 2) 1 = some [u] ∧ Rd T w u 3 t.args.length (tmsC t.args) := by
  have hlt : i < l.length := (List.getElem?_eq_some_iff.1 hi).1
  rcases h.inv (fun a xs hx => (LtC.one hx).1) with ⟨_, q2⟩ | ⟨b, o, c, rfl, hT, hb, _, hat⟩
  · rw [q2] at hlt; simp at hlt
  · obtain ⟨xs, ⟨u, rfl, hu⟩, hp⟩ := hat i t hi
    exact ⟨b, o, c, u, rfl, hT, hb, hp 0 3 (by omega), hp 0 1 (by omega), hp 1 1 (by omega), hp 2 1 (by omega), hu⟩
theorem rls_at {T : Nat → Prop} {w : AW} {v : V} {l : List Rl} (h : RdL (RlC T) T w v 4 l) {i : Nat} {r : Rl} (hi : l[i]? = some r) : ∃ b o c xs, v = .slice b o l.length c ∧ T b ∧ b < w.next ∧ RlC T w r xs ∧ w.load b (o + i * 4) 4 = some xs ∧ ∀ j k, j + k ≤ 4 → w.load b (o + i * 4 + j) k = some ((xs.drop j).take k) := by
  have hlt : i < l.length := (List.getElem?_eq_some_iff.1 hi).1
  rcases h.inv (fun a xs hx => (RlC.one hx).1) with ⟨_, q2⟩ | ⟨b, o, c, rfl, hT, hb, _, hat⟩
  · rw [q2] at hlt; simp at hlt
  · obtain ⟨xs, hx, hp⟩ := hat i r hi
    have hl := hx.one.1
    have := hp 0 4 (by omega)
    rw [List.drop_zero, List.take_of_length_le (by omega)] at this
    exact ⟨b, o, c, xs, rfl, hT, hb, hx, this, hp⟩
theorem rdL_lenV {α : Type} {r : AW → α → List V → Prop} {T : Nat → Prop} {w : AW} {v : V} {esz : Nat} {l : List α} (h : RdL r T w v esz l) : lenV v = some l.length := by
  obtain ⟨xss, h1, _⟩ := h; exact h1.lenV
def strsC (l : List (List Nat)) : List V := l.map V.str
theorem strsC_len (l : List (List Nat)) : (strsC l).length = l.length := by simp [strsC]
abbrev SM := MB (α := List Nat) (β := Int) V.str (V.int .i64)
/-- what is seen, how often. -/
def Seen (M : List (List Nat × Int)) (out : List (List Nat)) (i : Nat) : Prop := ∀ x, (aget M x = none ↔ x ∉ out) ∧ ∀ c, aget M x = some c → 1 ≤ c ∧ c ≤ i
def VarI (T : Nat → Prop) (aw : AW) (lv : V) (l : List Tm) (q : Nat) (f : Fr) (w : AW) : Prop :=
  ∃ i bm M out ov S, f.get 3 = some ov ∧ f.get 4 = some (.map bm) ∧ f.get 8 = some lv ∧ f.get 9 = some (.int .i64 (Int.ofNat l.length)) ∧ f.get 10 = some (.int .i64 (Int.ofNat i)) ∧ i ≤ l.length ∧ q = l.length - i ∧
    SM w bm M ∧ aw.next ≤ bm ∧ Seen M out i ∧ cVars l = (l.drop i).foldl addVar out ∧ out.length ≤ i ∧ Bt S w ov 1 out.length (strsC out) ∧ (∀ x, S x → aw.next ≤ x ∧ x < w.next ∧ x ≠ bm) ∧ Frm (fun _ => False) aw w
def VarJ (aw : AW) (l : List Tm) (f : Fr) (w : AW) : Prop := ∃ ov S, f.get 3 = some ov ∧ Bt S w ov 1 (cVars l).length (strsC (cVars l)) ∧ (∀ x, S x → aw.next ≤ x ∧ x < w.next) ∧ Frm (fun _ => False) aw w
/-- Vars. -/
theorem vars_ok (C : Codes tab) {T : Nat → Prop} {aw : AW} {lv : V} {l : List Tm} {K : V → AW → Prop} (hl : Rd T aw lv 3 l.length (tmsC l)) (hn : l.length ≤ 100000)
    (h : ∀ v w S, Bt S w v 1 (cVars l).length (strsC (cVars l)) → Frm (fun _ => False) aw w → (∀ x, S x → aw.next ≤ x ∧ x < w.next) → K v w) : WF tab n_check_Vars [lv] aw K := by
  refine WF_of C.c_check_Vars rfl ?_
  have hlv := hl.lenV
  refine WS_run 1000 (by simp only [go_sem, eRun_exit, Nat.reduceAdd, Nat.reduceLT, Nat.reduceEqDiff, reduceIte, reduceCtorEq, Int.reduceBEq, Int.reduceBNe, Int.reduceLT, Int.reduceLE, Int.reduceGT, Int.reduceGE, Int.reduceEq, Int.reduceAdd, Int.reduceSub, Int.reduceMul, Nat.reduceMul, Nat.reduceSub, Nat.reduceLeDiff, k_check_Vars, k_check_Vars_p5, hlv]; rfl) ?_
  refine WS_loopJ (VarI T aw lv l) (VarJ aw l) ?_ ?_ l.length ⟨0, aw.next, [], [], .nilslice, fun _ => False, (by simp only [go_sem, eRun_exit, Nat.reduceAdd, Nat.reduceLT, Nat.reduceEqDiff, reduceIte, reduceCtorEq, Int.reduceBEq, Int.reduceBNe, Int.reduceLT, Int.reduceLE, Int.reduceGT, Int.reduceGE, Int.reduceEq, Int.reduceAdd, Int.reduceSub, Int.reduceMul, Nat.reduceMul, Nat.reduceSub, Nat.reduceLeDiff] <;> rfl), (by simp only [go_sem, eRun_exit, Nat.reduceAdd, Nat.reduceLT, Nat.reduceEqDiff, reduceIte, reduceCtorEq, Int.reduceBEq, Int.reduceBNe, Int.reduceLT, Int.reduceLE, Int.reduceGT, Int.reduceGE, Int.reduceEq, Int.reduceAdd, Int.reduceSub, Int.reduceMul, Nat.reduceMul, Nat.reduceSub, Nat.reduceLeDiff] <;> rfl), (by simp only [go_sem, eRun_exit, Nat.reduceAdd, Nat.reduceLT, Nat.reduceEqDiff, reduceIte, reduceCtorEq, Int.reduceBEq, Int.reduceBNe, Int.reduceLT, Int.reduceLE, Int.reduceGT, Int.reduceGE, Int.reduceEq, Int.reduceAdd, Int.reduceSub, Int.reduceMul, Nat.reduceMul, Nat.reduceSub, Nat.reduceLeDiff] <;> rfl), (by simp only [go_sem, eRun_exit, Nat.reduceAdd, Nat.reduceLT, Nat.reduceEqDiff, reduceIte, reduceCtorEq, Int.reduceBEq, Int.reduceBNe, Int.reduceLT, Int.reduceLE, Int.reduceGT, Int.reduceGE, Int.reduceEq, Int.reduceAdd, Int.reduceSub, Int.reduceMul, Nat.reduceMul, Nat.reduceSub, Nat.reduceLeDiff] <;> rfl), (by simp only [go_sem, eRun_exit, Nat.reduceAdd, Nat.reduceLT, Nat.reduceEqDiff, reduceIte, reduceCtorEq, Int.reduceBEq, Int.reduceBNe, Int.reduceLT, Int.reduceLE, Int.reduceGT, Int.reduceGE, Int.reduceEq, Int.reduceAdd, Int.reduceSub, Int.reduceMul, Nat.reduceMul, Nat.reduceSub, Nat.reduceLeDiff] <;> rfl), by omega, by omega, MB.new aw, Nat.le_refl _, fun x => ⟨by simp [aget], fun c hc => by simp [aget] at hc⟩, rfl, by simp, .nil, fun _ h => h.elim, mnew_frm aw⟩
  · rintro q f w ⟨i, bm, M, out, ov, S, f3, f4, f8, f9, f10, hi, rfl, hM, hbm, hseen, hfold, hol, hb, hS, hf⟩ ih exit
    by_cases hlt : i < l.length
    case neg =>
      rw [List.drop_eq_nil_of_le (by omega : l.length ≤ i)] at hfold
      have hfold : cVars l = out := hfold
      refine WS_runB 1000 (by simp only [go_sem, Nat.reduceAdd, Nat.reduceLT, Nat.reduceEqDiff, reduceIte, reduceCtorEq, Int.reduceBEq, Int.reduceBNe, Int.reduceLT, Int.reduceLE, Int.reduceGT, Int.reduceGE, Int.reduceEq, Int.reduceAdd, Int.reduceSub, Int.reduceMul, Nat.reduceMul, Nat.reduceSub, Nat.reduceLeDiff, k_check_Vars_p4, f9, f10, hlt]; rfl) ?_
      exact exit _ _ _ ⟨ov, S, (by simp only [go_sem, eRun_exit, Nat.reduceAdd, Nat.reduceLT, Nat.reduceEqDiff, reduceIte, reduceCtorEq, Int.reduceBEq, Int.reduceBNe, Int.reduceLT, Int.reduceLE, Int.reduceGT, Int.reduceGE, Int.reduceEq, Int.reduceAdd, Int.reduceSub, Int.reduceMul, Nat.reduceMul, Nat.reduceSub, Nat.reduceLeDiff, f3] <;> rfl), by rw [hfold]; exact hb, fun x hx => ⟨(hS x hx).1, (hS x hx).2.1⟩, hf⟩ rfl
    obtain ⟨t, ht⟩ : ∃ t, l[i]? = some t := ⟨_, List.getElem?_eq_getElem hlt⟩
    obtain ⟨b, o, c, rfl, hTb, hbl, a3, a1, a2⟩ := tms_at (hl.frm hf fun _ _ h => h) ht
    have hd : l.drop i = t :: l.drop (i + 1) := by
      rw [List.drop_eq_getElem_cons hlt]; rw [List.getElem?_eq_getElem hlt] at ht; rw [Option.some.inj ht]
    rw [hd, List.foldl_cons] at hfold
    have hwr : IntKind.wrap .i64 (Int.ofNat i + 1) = Int.ofNat (i + 1) := wrap_succ (by omega)
    obtain ⟨w2, s2, c2, r2, n2⟩ := boxed w (zs := [V.int .i64 0, V.str [], V.int .i64 0]) (vs := tmC t) rfl rfl
    have k0 : w2.load w.next 0 1 = some [.int .i64 (Int.ofNat t.kind)] := by rw [c2.load]; rfl
    have k1 : w2.load w.next 1 1 = some [.str t.name] := by rw [c2.load]; rfl
    have hM2 := hM.frm r2 fun h => h
    have hb2 := hb.frm r2 fun _ _ h => h
    have hf2 := hf.tr r2
    have nw := hf.next
    by_cases hk : t.kind = 1
    case neg =>
      have he : addVar out t = out := if_neg fun h => hk h.1
      rw [he] at hfold
      refine WS_run 1000 (by simp only [go_sem, eRun_exit, Nat.reduceAdd, Nat.reduceLT, Nat.reduceEqDiff, reduceIte, reduceCtorEq, Int.reduceBEq, Int.reduceBNe, Int.reduceLT, Int.reduceLE, Int.reduceGT, Int.reduceGE, Int.reduceEq, Int.reduceAdd, Int.reduceSub, Int.reduceMul, Nat.reduceMul, Nat.reduceSub, Nat.reduceLeDiff, k_check_Vars_p4, k_check_Vars_p3, f3, f4, f8, f9, f10, hlt, a3, s2, tmC_len, k0, hk, hwr]; rfl) ?_
      exact ih _ _ _ (by omega) ⟨i + 1, bm, M, out, ov, S, (by simp only [go_sem, eRun_exit, Nat.reduceAdd, Nat.reduceLT, Nat.reduceEqDiff, reduceIte, reduceCtorEq, Int.reduceBEq, Int.reduceBNe, Int.reduceLT, Int.reduceLE, Int.reduceGT, Int.reduceGE, Int.reduceEq, Int.reduceAdd, Int.reduceSub, Int.reduceMul, Nat.reduceMul, Nat.reduceSub, Nat.reduceLeDiff, f3] <;> rfl), (by simp only [go_sem, eRun_exit, Nat.reduceAdd, Nat.reduceLT, Nat.reduceEqDiff, reduceIte, reduceCtorEq, Int.reduceBEq, Int.reduceBNe, Int.reduceLT, Int.reduceLE, Int.reduceGT, Int.reduceGE, Int.reduceEq, Int.reduceAdd, Int.reduceSub, Int.reduceMul, Nat.reduceMul, Nat.reduceSub, Nat.reduceLeDiff, f4] <;> rfl), (by simp only [go_sem, eRun_exit, Nat.reduceAdd, Nat.reduceLT, Nat.reduceEqDiff, reduceIte, reduceCtorEq, Int.reduceBEq, Int.reduceBNe, Int.reduceLT, Int.reduceLE, Int.reduceGT, Int.reduceGE, Int.reduceEq, Int.reduceAdd, Int.reduceSub, Int.reduceMul, Nat.reduceMul, Nat.reduceSub, Nat.reduceLeDiff, f8] <;> rfl), (by simp only [go_sem, eRun_exit, Nat.reduceAdd, Nat.reduceLT, Nat.reduceEqDiff, reduceIte, reduceCtorEq, Int.reduceBEq, Int.reduceBNe, Int.reduceLT, Int.reduceLE, Int.reduceGT, Int.reduceGE, Int.reduceEq, Int.reduceAdd, Int.reduceSub, Int.reduceMul, Nat.reduceMul, Nat.reduceSub, Nat.reduceLeDiff, f9] <;> rfl), (by simp only [go_sem, eRun_exit, Nat.reduceAdd, Nat.reduceLT, Nat.reduceEqDiff, reduceIte, reduceCtorEq, Int.reduceBEq, Int.reduceBNe, Int.reduceLT, Int.reduceLE, Int.reduceGT, Int.reduceGE, Int.reduceEq, Int.reduceAdd, Int.reduceSub, Int.reduceMul, Nat.reduceMul, Nat.reduceSub, Nat.reduceLeDiff] <;> rfl), by omega, rfl, hM2, hbm, fun x => ⟨(hseen x).1, fun c hc => by have := (hseen x).2 c hc; omega⟩, hfold, by omega, hb2, fun x hx => by have := hS x hx; exact ⟨this.1, by omega, this.2.2⟩, hf2⟩
    -- how often it was seen
    obtain ⟨n, hn0, hn1, hgn⟩ : ∃ n : Nat, n ≤ i ∧ (n = 0 ↔ t.name ∉ out) ∧ mres (V.int .i64) (V.int .i64 0) (aget M t.name) = (V.int .i64 (Int.ofNat n), decide (n ≠ 0)) := by
      cases hg : aget M t.name with
      | none => exact ⟨0, by omega, by simp [(hseen t.name).1.1 hg], rfl⟩
      | some c =>
        have hc := (hseen t.name).2 c hg
        have hin : ¬ t.name ∉ out := fun h => by have := (hseen t.name).1.2 h; rw [this] at hg; cases hg
        refine ⟨c.toNat, by omega, ⟨fun h => by omega, fun h => absurd h hin⟩, ?_⟩
        have e1 : Int.ofNat c.toNat = c := by simp; omega
        have e2 : decide (c.toNat ≠ 0) = true := decide_eq_true (by omega)
        show (V.int .i64 c, true) = _
        rw [e1, e2]
    have look := hM2.look strKey (.int .i64 0) t.name
    rw [hgn] at look
    obtain ⟨w3, p3, hM3, r3, n3⟩ := hM2.put strKey t.name (Int.ofNat (n + 1))
    have hw3 : IntKind.wrap .i64 (Int.ofNat n + 1) = Int.ofNat (n + 1) := wrap_succ (by omega)
    have k3 : w3.load w.next 1 1 = some [.str t.name] := by rw [(c2.frm r3 (by have := hM.lt; omega)).load]; rfl
    have look3 := hM3.look strKey (.int .i64 0) t.name
    rw [aget_put_same] at look3
    simp only [mres] at look3
    have hb3 := hb2.frm r3 fun x hx he => (hS x hx).2.2 he
    have hf3 : Frm (fun _ => False) aw w3 := hf2.trans r3 (fun _ _ h => h) (by rintro x hx rfl; omega)
    have seen3 : ∀ out', (∀ x, x ∈ out' ↔ x ∈ out ∨ x = t.name) → Seen (aput M t.name (Int.ofNat (n + 1))) out' (i + 1) := by
      intro out' ho x
      by_cases hx : x = t.name
      · subst hx
        rw [aget_put_same]
        refine ⟨⟨fun h => (by cases h), fun h => absurd ((ho t.name).2 (.inr rfl)) h⟩, fun c hc => ?_⟩
        cases hc
        constructor
        · show (1 : Int) ≤ ((n + 1 : Nat) : Int); omega
        · show ((n + 1 : Nat) : Int) ≤ _; omega
      · rw [aget_put_ne _ _ _ _ hx]
        refine ⟨?_, fun c hc => by have := (hseen x).2 c hc; omega⟩
        rw [(hseen x).1, ho x]
        simp [hx]
    by_cases hn : n = 0
    · have hno := hn1.1 hn
      have he : addVar out t = out ++ [t.name] := if_pos ⟨hk, hno⟩
      rw [he] at hfold
      subst hn
      have hS3 : ∀ b, S b → b < w3.next := fun b hb => by have := (hS b hb).2; omega
      obtain ⟨v', w5, S5, u1, u2, u3, u4⟩ := hb3.push (news := [V.str t.name]) (bytes := 16) hS3 (by omega) rfl rfl (by omega) (by omega)
      have b4 := elems_fresh (w := w3) (esz := 1) (n := 1) (cs := [V.str t.name]) (c := .known 1) (by omega) rfl
      have hov : over [V.str []] 0 [V.str t.name] = some [V.str t.name] := rfl
      refine WS_run 1000 (by simp only [go_sem, eRun_exit, Nat.reduceAdd, Nat.reduceLT, Nat.reduceEqDiff, reduceIte, reduceCtorEq, Int.reduceBEq, Int.reduceBNe, Int.reduceLT, Int.reduceLE, Int.reduceGT, Int.reduceGE, Int.reduceEq, Int.reduceAdd, Int.reduceSub, Int.reduceMul, Nat.reduceMul, Nat.reduceSub, Nat.reduceLeDiff, k_check_Vars_p4, k_check_Vars_p3, k_check_Vars_p2, k_check_Vars_p1, k_check_Vars_p0, f3, f4, f8, f9, f10, hlt, a3, s2, tmC_len, k0, k1, k3, hk, hwr, look, hw3, p3, look3, evParts, fillV, hov, u1, b4, List.length_cons, List.length_nil]; rfl) ?_
      refine ih _ _ _ (by omega) ⟨i + 1, bm, _, out ++ [t.name], v', S5, (by simp only [go_sem, eRun_exit, Nat.reduceAdd, Nat.reduceLT, Nat.reduceEqDiff, reduceIte, reduceCtorEq, Int.reduceBEq, Int.reduceBNe, Int.reduceLT, Int.reduceLE, Int.reduceGT, Int.reduceGE, Int.reduceEq, Int.reduceAdd, Int.reduceSub, Int.reduceMul, Nat.reduceMul, Nat.reduceSub, Nat.reduceLeDiff] <;> rfl), (by simp only [go_sem, eRun_exit, Nat.reduceAdd, Nat.reduceLT, Nat.reduceEqDiff, reduceIte, reduceCtorEq, Int.reduceBEq, Int.reduceBNe, Int.reduceLT, Int.reduceLE, Int.reduceGT, Int.reduceGE, Int.reduceEq, Int.reduceAdd, Int.reduceSub, Int.reduceMul, Nat.reduceMul, Nat.reduceSub, Nat.reduceLeDiff, f4] <;> rfl), (by simp only [go_sem, eRun_exit, Nat.reduceAdd, Nat.reduceLT, Nat.reduceEqDiff, reduceIte, reduceCtorEq, Int.reduceBEq, Int.reduceBNe, Int.reduceLT, Int.reduceLE, Int.reduceGT, Int.reduceGE, Int.reduceEq, Int.reduceAdd, Int.reduceSub, Int.reduceMul, Nat.reduceMul, Nat.reduceSub, Nat.reduceLeDiff, f8] <;> rfl), (by simp only [go_sem, eRun_exit, Nat.reduceAdd, Nat.reduceLT, Nat.reduceEqDiff, reduceIte, reduceCtorEq, Int.reduceBEq, Int.reduceBNe, Int.reduceLT, Int.reduceLE, Int.reduceGT, Int.reduceGE, Int.reduceEq, Int.reduceAdd, Int.reduceSub, Int.reduceMul, Nat.reduceMul, Nat.reduceSub, Nat.reduceLeDiff, f9] <;> rfl), (by simp only [go_sem, eRun_exit, Nat.reduceAdd, Nat.reduceLT, Nat.reduceEqDiff, reduceIte, reduceCtorEq, Int.reduceBEq, Int.reduceBNe, Int.reduceLT, Int.reduceLE, Int.reduceGT, Int.reduceGE, Int.reduceEq, Int.reduceAdd, Int.reduceSub, Int.reduceMul, Nat.reduceMul, Nat.reduceSub, Nat.reduceLeDiff] <;> rfl), by omega, rfl, hM3.frm u3 fun h => (hS _ h).2.2 rfl, hbm, seen3 _ (by simp), hfold, by simp; omega, ?_, fun x hx => ?_, hf3.trans u3 (fun _ _ h => h) fun x hx h => by have := (hS x h).1; omega⟩
      · rw [List.length_append, List.length_singleton]
        have : strsC (out ++ [t.name]) = strsC out ++ [V.str t.name] := by simp [strsC]
        rw [this]; exact u2
      · obtain ⟨m1, m2⟩ := u4 x hx
        have := hM.lt
        rcases m2 with m2 | m2
        · exact ⟨(hS x m2).1, m1, (hS x m2).2.2⟩
        · exact ⟨by omega, m1, by omega⟩
    · have hin : t.name ∈ out := Classical.byContradiction fun h => hn (hn1.2 h)
      have he : addVar out t = out := if_neg fun h => h.2 hin
      rw [he] at hfold
      have hne : ¬ n + 1 = 1 := by omega
      refine WS_run 1000 (by simp only [go_sem, eRun_exit, Nat.reduceAdd, Nat.reduceLT, Nat.reduceEqDiff, reduceIte, reduceCtorEq, Int.reduceBEq, Int.reduceBNe, Int.reduceLT, Int.reduceLE, Int.reduceGT, Int.reduceGE, Int.reduceEq, Int.reduceAdd, Int.reduceSub, Int.reduceMul, Nat.reduceMul, Nat.reduceSub, Nat.reduceLeDiff, k_check_Vars_p4, k_check_Vars_p3, k_check_Vars_p2, k_check_Vars_p1, f3, f4, f8, f9, f10, hlt, a3, s2, tmC_len, k0, k1, k3, hk, hwr, look, hw3, p3, look3, hne]; rfl) ?_
      exact ih _ _ _ (by omega) ⟨i + 1, bm, _, out, ov, S, (by simp only [go_sem, eRun_exit, Nat.reduceAdd, Nat.reduceLT, Nat.reduceEqDiff, reduceIte, reduceCtorEq, Int.reduceBEq, Int.reduceBNe, Int.reduceLT, Int.reduceLE, Int.reduceGT, Int.reduceGE, Int.reduceEq, Int.reduceAdd, Int.reduceSub, Int.reduceMul, Nat.reduceMul, Nat.reduceSub, Nat.reduceLeDiff, f3] <;> rfl), (by simp only [go_sem, eRun_exit, Nat.reduceAdd, Nat.reduceLT, Nat.reduceEqDiff, reduceIte, reduceCtorEq, Int.reduceBEq, Int.reduceBNe, Int.reduceLT, Int.reduceLE, Int.reduceGT, Int.reduceGE, Int.reduceEq, Int.reduceAdd, Int.reduceSub, Int.reduceMul, Nat.reduceMul, Nat.reduceSub, Nat.reduceLeDiff, f4] <;> rfl), (by simp only [go_sem, eRun_exit, Nat.reduceAdd, Nat.reduceLT, Nat.reduceEqDiff, reduceIte, reduceCtorEq, Int.reduceBEq, Int.reduceBNe, Int.reduceLT, Int.reduceLE, Int.reduceGT, Int.reduceGE, Int.reduceEq, Int.reduceAdd, Int.reduceSub, Int.reduceMul, Nat.reduceMul, Nat.reduceSub, Nat.reduceLeDiff, f8] <;> rfl), (by simp only [go_sem, eRun_exit, Nat.reduceAdd, Nat.reduceLT, Nat.reduceEqDiff, reduceIte, reduceCtorEq, Int.reduceBEq, Int.reduceBNe, Int.reduceLT, Int.reduceLE, Int.reduceGT, Int.reduceGE, Int.reduceEq, Int.reduceAdd, Int.reduceSub, Int.reduceMul, Nat.reduceMul, Nat.reduceSub, Nat.reduceLeDiff, f9] <;> rfl), (by simp only [go_sem, eRun_exit, Nat.reduceAdd, Nat.reduceLT, Nat.reduceEqDiff, reduceIte, reduceCtorEq, Int.reduceBEq, Int.reduceBNe, Int.reduceLT, Int.reduceLE, Int.reduceGT, Int.reduceGE, Int.reduceEq, Int.reduceAdd, Int.reduceSub, Int.reduceMul, Nat.reduceMul, Nat.reduceSub, Nat.reduceLeDiff] <;> rfl), by omega, rfl, hM3, hbm, seen3 _ (fun x => ⟨.inl, fun h => h.elim id fun h => h ▸ hin⟩), hfold, by omega, hb3, fun x hx => by have := hS x hx; exact ⟨this.1, by omega, this.2.2⟩, hf3⟩
  · rintro f w ⟨ov, S, f3, hb, hS, hf⟩
    refine WS_run 1000 (by simp only [go_sem, eRun_exit, Nat.reduceAdd, Nat.reduceLT, Nat.reduceEqDiff, reduceIte, reduceCtorEq, Int.reduceBEq, Int.reduceBNe, Int.reduceLT, Int.reduceLE, Int.reduceGT, Int.reduceGE, Int.reduceEq, Int.reduceAdd, Int.reduceSub, Int.reduceMul, Nat.reduceMul, Nat.reduceSub, Nat.reduceLeDiff, f3]; rfl) ?_
    refine WS_ret ⟨_, by simp only [go_sem, eRun_exit, Nat.reduceAdd, Nat.reduceLT, Nat.reduceEqDiff, reduceIte, reduceCtorEq, Int.reduceBEq, Int.reduceBNe, Int.reduceLT, Int.reduceLE, Int.reduceGT, Int.reduceGE, Int.reduceEq, Int.reduceAdd, Int.reduceSub, Int.reduceMul, Nat.reduceMul, Nat.reduceSub, Nat.reduceLeDiff, k_check_Vars]; rfl, ?_⟩
    exact h ov w S hb hf hS
end Go.Proofs.Ytjidefnbancmfaa

/- check.Safe. -/
set_option linter.unusedVariables false
set_option maxRecDepth 10000
set_option linter.unusedSimpArgs false
namespace Delphi
/-- what must be bound, what is. -/
def rNeed (r : Rl) : List (List Nat) := r.body.foldl (fun acc l => if l.kind = 1 then acc else acc ++ cVars l.args) (cVars r.head.args)
def rBound (r : Rl) : List (List Nat) := r.body.foldl (fun acc l => if l.kind = 1 then acc ++ cVars l.args else acc) []
def cSafe (r : Rl) : Bool := (rNeed r).all fun v => decide (v ∈ rBound r)
structure RBd (r : Rl) : Prop where
  head : r.head.args.length ≤ 1000
  body : r.body.length ≤ 1000
  args : ∀ l ∈ r.body, l.args.length ≤ 1000
end Delphi
namespace Go.Proofs.Ytjidefnbancmfaa
open Go.AE Delphi
variable {tab : Tab}
theorem seen_look {M : List (List Nat × Int)} {out : List (List Nat)} {i : Nat} (h : Seen M out i) (k : List Nat) : ∃ n : Nat, n ≤ i ∧ (n = 0 ↔ k ∉ out) ∧ mres (V.int .i64) (V.int .i64 0) (aget M k) = (V.int .i64 (Int.ofNat n), decide (n ≠ 0)) := by
  cases hg : aget M k with
  | none => exact ⟨0, by omega, by simp [(h k).1.1 hg], rfl⟩
  | some c =>
    have hc := (h k).2 c hg
    have hin : ¬ k ∉ out := fun hh => by have := (h k).1.2 hh; rw [this] at hg; cases hg
    refine ⟨c.toNat, by omega, ⟨fun h => by omega, fun h => absurd h hin⟩, ?_⟩
    have e1 : Int.ofNat c.toNat = c := by simp; omega
    have e2 : decide (c.toNat ≠ 0) = true := decide_eq_true (by omega)
    show (V.int .i64 c, true) = _
    rw [e1, e2]
theorem seen_put {M : List (List Nat × Int)} {out out' : List (List Nat)} {i n : Nat} {k : List Nat} (h : Seen M out i) (hn : n ≤ i) (ho : ∀ x, x ∈ out' ↔ x ∈ out ∨ x = k) : Seen (aput M k (Int.ofNat (n + 1))) out' (i + 1) := by
  intro x
  by_cases hx : x = k
  · subst hx
    rw [aget_put_same]
    refine ⟨⟨fun h => (by cases h), fun h => absurd ((ho x).2 (.inr rfl)) h⟩, fun c hc => ?_⟩
    cases hc
    constructor
    · show (1 : Int) ≤ ((n + 1 : Nat) : Int); omega
    · show ((n + 1 : Nat) : Int) ≤ _; omega
  · rw [aget_put_ne _ _ _ _ hx]
    refine ⟨?_, fun c hc => by have := (h x).2 c hc; omega⟩
    rw [(h x).1, ho x]
    simp [hx]
theorem strs_at {T : Nat → Prop} {w : AW} {v : V} {l : List (List Nat)} (h : Rd T w v 1 l.length (strsC l)) {i : Nat} {s : List Nat} (hi : l[i]? = some s) : ∃ b o c, v = .slice b o l.length c ∧ T b ∧ b < w.next ∧ w.load b (o + i * 1) 1 = some [.str s] := by
  have hlt : i < l.length := (List.getElem?_eq_some_iff.1 hi).1
  rcases h.inv with ⟨_, q2, _⟩ | ⟨b, o, c, rfl, hB⟩
  · omega
  · refine ⟨b, o, c, rfl, hB.own, hB.lt, hB.cell (by omega) ?_⟩
    simp only [strsC, List.getElem?_map, Nat.mul_one, hi, Option.map_some]
/-- names counted, one by one. -/
def CntI (a : AW) (bm : Nat) (lv : V) (vs bnd : List (List Nat)) (N : Nat) (f0 : Fr) (q : Nat) (f : Fr) (w : AW) : Prop :=
  ∃ j M bnd', f.get 3 = some (.map bm) ∧ f.get 33 = some lv ∧ f.get 34 = some (.int .i64 (Int.ofNat vs.length)) ∧ f.get 35 = some (.int .i64 (Int.ofNat j)) ∧ (∀ y, y = 1 ∨ y = 2 ∨ y = 4 ∨ y = 17 ∨ y = 18 ∨ y = 19 → f.get y = f0.get y) ∧ j ≤ vs.length ∧ q = vs.length - j ∧
    SM w bm M ∧ Seen M bnd' (N + j) ∧ (∀ x, x ∈ bnd' ↔ x ∈ bnd ∨ x ∈ vs.take j) ∧ Frm (fun b => b = bm) a w ∧ w.next = a.next
def CntJ (a : AW) (bm : Nat) (vs bnd : List (List Nat)) (N : Nat) (f0 : Fr) (f : Fr) (w : AW) : Prop :=
  ∃ M bnd', f.get 3 = some (.map bm) ∧ (∀ y, y = 1 ∨ y = 2 ∨ y = 4 ∨ y = 17 ∨ y = 18 ∨ y = 19 → f.get y = f0.get y) ∧ SM w bm M ∧ Seen M bnd' (N + vs.length) ∧ (∀ x, x ∈ bnd' ↔ x ∈ bnd ∨ x ∈ vs) ∧ Frm (fun b => b = bm) a w ∧ w.next = a.next
theorem cnt_step {T : Nat → Prop} {a w : AW} {bm : Nat} {lv : V} {vs bnd : List (List Nat)} {N : Nat} {f0 f : Fr} {q : Nat} {s : List SI} {Q : Fr → AW → Prop} (hl : Rd T a lv 1 vs.length (strsC vs)) (hT : ∀ x, T x → x ≠ bm) (hN : N + vs.length ≤ 1000000000)
    (hI : CntI a bm lv vs bnd N f0 q f w) (ih : ∀ n' f' w', n' < q → CntI a bm lv vs bnd N f0 n' f' w' → WS tab (.code (.loop k_check_Safe_p3) :: .endB 2 :: s) f' w' Q)
    (out : ∀ s' f' w', CntJ a bm vs bnd N f0 f' w' → popTo 2 s' = some s → WS tab (.code (.exit 2) :: s') f' w' Q) : WS tab (.code k_check_Safe_p3 :: .code (.loop k_check_Safe_p3) :: .endB 2 :: s) f w Q := by
  obtain ⟨j, M, bnd', f3, f33, f34, f35, hold, hj, rfl, hM, hseen, hbnd, hf, hn⟩ := hI
  by_cases hlt : j < vs.length
  case neg =>
    have : j = vs.length := by omega
    subst this
    rw [List.take_length] at hbnd
    refine WS_runB 1000 (by simp only [go_sem, Nat.reduceAdd, Nat.reduceLT, Nat.reduceEqDiff, reduceIte, reduceCtorEq, Int.reduceBEq, Int.reduceBNe, Int.reduceLT, Int.reduceLE, Int.reduceGT, Int.reduceGE, Int.reduceEq, Int.reduceAdd, Int.reduceSub, Int.reduceMul, Nat.reduceMul, Nat.reduceSub, Nat.reduceLeDiff, k_check_Safe_p3, f34, f35, hlt]; rfl) ?_
    refine out _ _ _ ⟨M, bnd', (by simp only [go_sem, eRun_exit, Nat.reduceAdd, Nat.reduceLT, Nat.reduceEqDiff, reduceIte, reduceCtorEq, Int.reduceBEq, Int.reduceBNe, Int.reduceLT, Int.reduceLE, Int.reduceGT, Int.reduceGE, Int.reduceEq, Int.reduceAdd, Int.reduceSub, Int.reduceMul, Nat.reduceMul, Nat.reduceSub, Nat.reduceLeDiff, f3] <;> rfl), ?_, hM, hseen, hbnd, hf, hn⟩ rfl
    rintro y hy
    rw [← hold y hy]
    rcases hy with rfl | rfl | rfl | rfl | rfl | rfl <;> exact (by simp only [go_sem, eRun_exit, Nat.reduceAdd, Nat.reduceLT, Nat.reduceEqDiff, reduceIte, reduceCtorEq, Int.reduceBEq, Int.reduceBNe, Int.reduceLT, Int.reduceLE, Int.reduceGT, Int.reduceGE, Int.reduceEq, Int.reduceAdd, Int.reduceSub, Int.reduceMul, Nat.reduceMul, Nat.reduceSub, Nat.reduceLeDiff] <;> rfl)
  obtain ⟨v, hv⟩ : ∃ v, vs[j]? = some v := ⟨_, List.getElem?_eq_getElem hlt⟩
  obtain ⟨b, o, c, rfl, hTb, hbl, a1⟩ := strs_at (hl.frm hf fun x hx he => hT x hx he) hv
  obtain ⟨n, hn0, hn1, hgn⟩ := seen_look hseen v
  have look := hM.look strKey (.int .i64 0) v
  rw [hgn] at look
  obtain ⟨w3, p3, hM3, r3, n3⟩ := hM.put strKey v (Int.ofNat (n + 1))
  have hw3 : IntKind.wrap .i64 (Int.ofNat n + 1) = Int.ofNat (n + 1) := wrap_succ (by omega)
  have hwr : IntKind.wrap .i64 (Int.ofNat j + 1) = Int.ofNat (j + 1) := wrap_succ (by omega)
  refine WS_run 1000 (by simp only [go_sem, eRun_exit, Nat.reduceAdd, Nat.reduceLT, Nat.reduceEqDiff, reduceIte, reduceCtorEq, Int.reduceBEq, Int.reduceBNe, Int.reduceLT, Int.reduceLE, Int.reduceGT, Int.reduceGE, Int.reduceEq, Int.reduceAdd, Int.reduceSub, Int.reduceMul, Nat.reduceMul, Nat.reduceSub, Nat.reduceLeDiff, k_check_Safe_p3, k_check_Safe_p2, k_check_Safe_p1, f3, f33, f34, f35, hlt, a1, look, hw3, p3, hwr]; rfl) ?_
  refine ih _ _ _ (by omega) ⟨j + 1, _, v :: bnd', (by simp only [go_sem, eRun_exit, Nat.reduceAdd, Nat.reduceLT, Nat.reduceEqDiff, reduceIte, reduceCtorEq, Int.reduceBEq, Int.reduceBNe, Int.reduceLT, Int.reduceLE, Int.reduceGT, Int.reduceGE, Int.reduceEq, Int.reduceAdd, Int.reduceSub, Int.reduceMul, Nat.reduceMul, Nat.reduceSub, Nat.reduceLeDiff, f3] <;> rfl), (by simp only [go_sem, eRun_exit, Nat.reduceAdd, Nat.reduceLT, Nat.reduceEqDiff, reduceIte, reduceCtorEq, Int.reduceBEq, Int.reduceBNe, Int.reduceLT, Int.reduceLE, Int.reduceGT, Int.reduceGE, Int.reduceEq, Int.reduceAdd, Int.reduceSub, Int.reduceMul, Nat.reduceMul, Nat.reduceSub, Nat.reduceLeDiff, f33] <;> rfl), (by simp only [go_sem, eRun_exit, Nat.reduceAdd, Nat.reduceLT, Nat.reduceEqDiff, reduceIte, reduceCtorEq, Int.reduceBEq, Int.reduceBNe, Int.reduceLT, Int.reduceLE, Int.reduceGT, Int.reduceGE, Int.reduceEq, Int.reduceAdd, Int.reduceSub, Int.reduceMul, Nat.reduceMul, Nat.reduceSub, Nat.reduceLeDiff, f34] <;> rfl), (by simp only [go_sem, eRun_exit, Nat.reduceAdd, Nat.reduceLT, Nat.reduceEqDiff, reduceIte, reduceCtorEq, Int.reduceBEq, Int.reduceBNe, Int.reduceLT, Int.reduceLE, Int.reduceGT, Int.reduceGE, Int.reduceEq, Int.reduceAdd, Int.reduceSub, Int.reduceMul, Nat.reduceMul, Nat.reduceSub, Nat.reduceLeDiff] <;> rfl), ?_, by omega, rfl, hM3, seen_put hseen hn0 (by intro x; simp [or_comm]), fun x => ?_, hf.tr r3, n3.trans hn⟩
  · rintro y hy
    rw [← hold y hy]
    rcases hy with rfl | rfl | rfl | rfl | rfl | rfl <;> exact (by simp only [go_sem, eRun_exit, Nat.reduceAdd, Nat.reduceLT, Nat.reduceEqDiff, reduceIte, reduceCtorEq, Int.reduceBEq, Int.reduceBNe, Int.reduceLT, Int.reduceLE, Int.reduceGT, Int.reduceGE, Int.reduceEq, Int.reduceAdd, Int.reduceSub, Int.reduceMul, Nat.reduceMul, Nat.reduceSub, Nat.reduceLeDiff] <;> rfl)
  · have ht : vs.take (j + 1) = vs.take j ++ [v] := by
      rw [List.take_add_one, hv]; rfl
    rw [List.mem_cons, hbnd, ht, List.mem_append, List.mem_singleton]
    constructor
    · rintro (h | h | h)
      · exact .inr (.inr h)
      · exact .inl h
      · exact .inr (.inl h)
    · rintro (h | h | h)
      · exact .inr (.inl h)
      · exact .inr (.inr h)
      · exact .inl h
end Go.Proofs.Ytjidefnbancmfaa

/- check.Safe, whole. -/
set_option linter.unusedVariables false
set_option maxRecDepth 10000
set_option linter.unusedSimpArgs false
namespace Delphi
def needL (acc : List (List Nat)) (l : Lt) : List (List Nat) := if l.kind = 1 then acc else acc ++ cVars l.args
def bndL (acc : List (List Nat)) (l : Lt) : List (List Nat) := if l.kind = 1 then acc ++ cVars l.args else acc
theorem rNeed_eq (r : Rl) : rNeed r = r.body.foldl needL (cVars r.head.args) := rfl
theorem rBound_eq (r : Rl) : rBound r = r.body.foldl bndL [] := rfl
end Delphi
namespace Go.Proofs.Ytjidefnbancmfaa
open Go.AE Delphi
variable {tab : Tab}
structure SF (f : Fr) (n1 bm : Nat) (nv uv : V) (n i : Nat) : Prop where
  f1 : f.get 1 = some (.ptr n1 0)
  f3 : f.get 3 = some (.map bm)
  f4 : f.get 4 = some nv
  f17 : f.get 17 = some uv
  f18 : f.get 18 = some (.int .i64 (Int.ofNat n))
  f19 : f.get 19 = some (.int .i64 (Int.ofNat i))
structure SW (aw w : AW) (bm : Nat) (M : List (List Nat × Int)) (bnd bl : List (List Nat)) (N : Nat) (nv : V) (nd : List (List Nat)) (S : Nat → Prop) : Prop where
  mp : SM w bm M
  seen : Seen M bnd N
  same : ∀ x, x ∈ bnd ↔ x ∈ bl
  need : Bt S w nv 1 nd.length (strsC nd)
  frm : Frm (fun _ => False) aw w
  hbm : aw.next ≤ bm
  sep : ∀ x, S x → aw.next ≤ x ∧ x < w.next ∧ x ≠ bm
def SafI (aw : AW) (n1 bm : Nat) (uv : V) (r : Rl) (q : Nat) (f : Fr) (w : AW) : Prop :=
  ∃ i M bnd bl N nv nd S, SF f n1 bm nv uv r.body.length i ∧ SW aw w bm M bnd bl N nv nd S ∧ i ≤ r.body.length ∧ q = r.body.length - i ∧ rNeed r = (r.body.drop i).foldl needL nd ∧ rBound r = (r.body.drop i).foldl bndL bl ∧ N ≤ 1000 * i ∧ nd.length ≤ 1000 * (i + 1)
def SafJ (aw : AW) (bm : Nat) (r : Rl) (f : Fr) (w : AW) : Prop :=
  ∃ M bnd N nv S, f.get 3 = some (.map bm) ∧ f.get 4 = some nv ∧ SW aw w bm M bnd (rBound r) N nv (rNeed r) S ∧ N ≤ 1000000
theorem strsC_app (a b : List (List Nat)) : strsC (a ++ b) = strsC a ++ strsC b := by simp [strsC]
theorem strsC_one (a : List (List Nat)) : allOne (strsC a) = true := by rw [allOne_iff]; intro v hv; simp only [strsC, List.mem_map] at hv; obtain ⟨x, _, rfl⟩ := hv; rfl
theorem safe_step (C : Codes tab) {T : Nat → Prop} {aw w : AW} {n1 bm : Nat} {uv : V} {r : Rl} {q : Nat} {f : Fr} {s : List SI} {Q : Fr → AW → Prop} (hu : RdL (LtC T) T aw uv 3 r.body) (hbd : RBd r)
    (hI : SafI aw n1 bm uv r q f w) (ih : ∀ n' f' w', n' < q → SafI aw n1 bm uv r n' f' w' → WS tab (.code (.loop k_check_Safe_p6) :: .endB 0 :: s) f' w' Q)
    (out : ∀ s' f' w', SafJ aw bm r f' w' → popTo 0 s' = some s → WS tab (.code (.exit 0) :: s') f' w' Q) : WS tab (.code k_check_Safe_p6 :: .code (.loop k_check_Safe_p6) :: .endB 0 :: s) f w Q := by
  obtain ⟨i, M, bnd, bl, N, nv, nd, S, ⟨f1, f3, f4, f17, f18, f19⟩, hA, hi, rfl, hnd, hbl, hN, hndl⟩ := hI
  by_cases hlt : i < r.body.length
  case neg =>
    rw [List.drop_eq_nil_of_le (by omega : r.body.length ≤ i)] at hnd hbl
    have hnd : rNeed r = nd := hnd
    have hbl : rBound r = bl := hbl
    refine WS_runB 1000 (by simp only [go_sem, Nat.reduceAdd, Nat.reduceLT, Nat.reduceEqDiff, reduceIte, reduceCtorEq, Int.reduceBEq, Int.reduceBNe, Int.reduceLT, Int.reduceLE, Int.reduceGT, Int.reduceGE, Int.reduceEq, Int.reduceAdd, Int.reduceSub, Int.reduceMul, Nat.reduceMul, Nat.reduceSub, Nat.reduceLeDiff, k_check_Safe_p6, f18, f19, hlt]; rfl) ?_
    exact out _ _ _ ⟨M, bnd, N, nv, S, (by simp only [go_sem, eRun_exit, Nat.reduceAdd, Nat.reduceLT, Nat.reduceEqDiff, reduceIte, reduceCtorEq, Int.reduceBEq, Int.reduceBNe, Int.reduceLT, Int.reduceLE, Int.reduceGT, Int.reduceGE, Int.reduceEq, Int.reduceAdd, Int.reduceSub, Int.reduceMul, Nat.reduceMul, Nat.reduceSub, Nat.reduceLeDiff, f3] <;> rfl), (by simp only [go_sem, eRun_exit, Nat.reduceAdd, Nat.reduceLT, Nat.reduceEqDiff, reduceIte, reduceCtorEq, Int.reduceBEq, Int.reduceBNe, Int.reduceLT, Int.reduceLE, Int.reduceGT, Int.reduceGE, Int.reduceEq, Int.reduceAdd, Int.reduceSub, Int.reduceMul, Nat.reduceMul, Nat.reduceSub, Nat.reduceLeDiff, f4] <;> rfl), by rw [hnd, hbl]; exact hA, by have := hbd.body; have : N ≤ 1000 * 1000 := Nat.le_trans hN (Nat.mul_le_mul_left _ (by omega)); omega⟩ rfl
  obtain ⟨t, ht⟩ : ∃ t, r.body[i]? = some t := ⟨_, List.getElem?_eq_getElem hlt⟩
  have hd : r.body.drop i = t :: r.body.drop (i + 1) := by
    rw [List.drop_eq_getElem_cons hlt]; rw [List.getElem?_eq_getElem hlt] at ht; rw [Option.some.inj ht]
  have hargs := hbd.args t (List.mem_of_getElem? ht)
  rw [hd, List.foldl_cons] at hnd hbl
  have hwr : IntKind.wrap .i64 (Int.ofNat i + 1) = Int.ofNat (i + 1) := wrap_succ (by have := hbd.body; omega)
  obtain ⟨b, o, c, u, rfl, hTb, hbb, a3, a0, _, _, hru⟩ := lits_at (hu.frm (fun _ _ h => h.frm hA.frm fun _ _ h => h) hA.frm fun _ _ h => h) ht
  have hone : allOne [V.int .i64 (Int.ofNat t.kind), .str t.name, u] = true := by rcases hru.inv with ⟨rfl, _⟩ | ⟨_, _, _, rfl, _⟩ <;> rfl
  obtain ⟨w2, s2, c2, r2, n2⟩ := boxed w (zs := [V.int .i64 0, V.str [], V.nilslice]) (vs := [V.int .i64 (Int.ofNat t.kind), .str t.name, u]) rfl hone
  have k0 : w2.load w.next 0 1 = some [.int .i64 (Int.ofNat t.kind)] := by rw [c2.load]; rfl
  have k2 : w2.load w.next 2 1 = some [u] := by rw [c2.load]; rfl
  have nw := hA.frm.next
  have hvl := cVars_len t.args
  by_cases hk : t.kind = 1
  case neg =>
    have e1 : needL nd t = nd ++ cVars t.args := if_neg hk
    have e2 : bndL bl t = bl := if_neg hk
    rw [e1] at hnd; rw [e2] at hbl
    refine WS_run 1000 (by simp only [go_sem, eRun_exit, Nat.reduceAdd, Nat.reduceLT, Nat.reduceEqDiff, reduceIte, reduceCtorEq, Int.reduceBEq, Int.reduceBNe, Int.reduceLT, Int.reduceLE, Int.reduceGT, Int.reduceGE, Int.reduceEq, Int.reduceAdd, Int.reduceSub, Int.reduceMul, Nat.reduceMul, Nat.reduceSub, Nat.reduceLeDiff, k_check_Safe_p6, k_check_Safe_p5, k_check_Safe_p0, f4, f17, f18, f19, hlt, a3, s2, k0, k2, hk, List.length_cons, List.length_nil]; rfl) ?_
    refine WS_call (by simp only [go_sem, eRun_exit, Nat.reduceAdd, Nat.reduceLT, Nat.reduceEqDiff, reduceIte, reduceCtorEq, Int.reduceBEq, Int.reduceBNe, Int.reduceLT, Int.reduceLE, Int.reduceGT, Int.reduceGE, Int.reduceEq, Int.reduceAdd, Int.reduceSub, Int.reduceMul, Nat.reduceMul, Nat.reduceSub, Nat.reduceLeDiff]) (by simp only [go_sem, eRun_exit, Nat.reduceAdd, Nat.reduceLT, Nat.reduceEqDiff, reduceIte, reduceCtorEq, Int.reduceBEq, Int.reduceBNe, Int.reduceLT, Int.reduceLE, Int.reduceGT, Int.reduceGE, Int.reduceEq, Int.reduceAdd, Int.reduceSub, Int.reduceMul, Nat.reduceMul, Nat.reduceSub, Nat.reduceLeDiff]; rfl) ?_
    refine vars_ok C (hru.frm r2 fun _ _ h => h) (by omega) fun v w3 S3 q1 q2 q3 => ?_
    have r3 := r2.tr q2
    have need3 := hA.need.frm r3 fun _ _ h => h
    have hel := q1.rd.elems
    obtain ⟨v', w4, S4, u1, u2, u3, u4⟩ := need3.addN (news := strsC (cVars t.args)) (k := (cVars t.args).length) (bytes := 16) (by omega) (by rw [strsC_len]; omega) (strsC_one _) (by have := hbd.body; omega) (by have := hbd.body; omega)
    have hM3 := (hA.mp.frm r3 fun h => h).frm u3 fun h => (hA.sep _ h).2.2 rfl
    have n3 := r3.next
    refine WS_run 1000 (by simp only [go_sem, eRun_exit, Nat.reduceAdd, Nat.reduceLT, Nat.reduceEqDiff, reduceIte, reduceCtorEq, Int.reduceBEq, Int.reduceBNe, Int.reduceLT, Int.reduceLE, Int.reduceGT, Int.reduceGE, Int.reduceEq, Int.reduceAdd, Int.reduceSub, Int.reduceMul, Nat.reduceMul, Nat.reduceSub, Nat.reduceLeDiff, f1, f3, f4, f17, f18, f19, hel, u1, hwr]; rfl) ?_
    refine ih _ _ _ (by omega) ⟨i + 1, M, bnd, bl, N, v', nd ++ cVars t.args, S4, ⟨(by simp only [go_sem, eRun_exit, Nat.reduceAdd, Nat.reduceLT, Nat.reduceEqDiff, reduceIte, reduceCtorEq, Int.reduceBEq, Int.reduceBNe, Int.reduceLT, Int.reduceLE, Int.reduceGT, Int.reduceGE, Int.reduceEq, Int.reduceAdd, Int.reduceSub, Int.reduceMul, Nat.reduceMul, Nat.reduceSub, Nat.reduceLeDiff, f1] <;> rfl), (by simp only [go_sem, eRun_exit, Nat.reduceAdd, Nat.reduceLT, Nat.reduceEqDiff, reduceIte, reduceCtorEq, Int.reduceBEq, Int.reduceBNe, Int.reduceLT, Int.reduceLE, Int.reduceGT, Int.reduceGE, Int.reduceEq, Int.reduceAdd, Int.reduceSub, Int.reduceMul, Nat.reduceMul, Nat.reduceSub, Nat.reduceLeDiff, f3] <;> rfl), (by simp only [go_sem, eRun_exit, Nat.reduceAdd, Nat.reduceLT, Nat.reduceEqDiff, reduceIte, reduceCtorEq, Int.reduceBEq, Int.reduceBNe, Int.reduceLT, Int.reduceLE, Int.reduceGT, Int.reduceGE, Int.reduceEq, Int.reduceAdd, Int.reduceSub, Int.reduceMul, Nat.reduceMul, Nat.reduceSub, Nat.reduceLeDiff] <;> rfl), (by simp only [go_sem, eRun_exit, Nat.reduceAdd, Nat.reduceLT, Nat.reduceEqDiff, reduceIte, reduceCtorEq, Int.reduceBEq, Int.reduceBNe, Int.reduceLT, Int.reduceLE, Int.reduceGT, Int.reduceGE, Int.reduceEq, Int.reduceAdd, Int.reduceSub, Int.reduceMul, Nat.reduceMul, Nat.reduceSub, Nat.reduceLeDiff, f17] <;> rfl), (by simp only [go_sem, eRun_exit, Nat.reduceAdd, Nat.reduceLT, Nat.reduceEqDiff, reduceIte, reduceCtorEq, Int.reduceBEq, Int.reduceBNe, Int.reduceLT, Int.reduceLE, Int.reduceGT, Int.reduceGE, Int.reduceEq, Int.reduceAdd, Int.reduceSub, Int.reduceMul, Nat.reduceMul, Nat.reduceSub, Nat.reduceLeDiff, f18] <;> rfl), (by simp only [go_sem, eRun_exit, Nat.reduceAdd, Nat.reduceLT, Nat.reduceEqDiff, reduceIte, reduceCtorEq, Int.reduceBEq, Int.reduceBNe, Int.reduceLT, Int.reduceLE, Int.reduceGT, Int.reduceGE, Int.reduceEq, Int.reduceAdd, Int.reduceSub, Int.reduceMul, Nat.reduceMul, Nat.reduceSub, Nat.reduceLeDiff] <;> rfl)⟩, ⟨hM3, hA.seen, hA.same, by rw [List.length_append, strsC_app]; exact u2, (hA.frm.tr r3).trans u3 (fun _ _ h => h) (fun x hx h => by have := (hA.sep x h).1; omega), hA.hbm, fun x hx => ?_⟩, by omega, rfl, hnd, hbl, by omega, by rw [List.length_append]; omega⟩
    obtain ⟨m1, m2⟩ := u4 x hx
    have := hA.mp.lt
    rcases m2 with m2 | m2
    · exact ⟨(hA.sep x m2).1, m1, (hA.sep x m2).2.2⟩
    · exact ⟨by omega, m1, by omega⟩
  · have e1 : needL nd t = nd := if_pos hk
    have e2 : bndL bl t = bl ++ cVars t.args := if_pos hk
    rw [e1] at hnd; rw [e2] at hbl
    rw [hk] at a3 s2 k0
    refine WS_run 1000 (by simp only [go_sem, eRun_exit, Nat.reduceAdd, Nat.reduceLT, Nat.reduceEqDiff, reduceIte, reduceCtorEq, Int.reduceBEq, Int.reduceBNe, Int.reduceLT, Int.reduceLE, Int.reduceGT, Int.reduceGE, Int.reduceEq, Int.reduceAdd, Int.reduceSub, Int.reduceMul, Nat.reduceMul, Nat.reduceSub, Nat.reduceLeDiff, k_check_Safe_p6, k_check_Safe_p5, k_check_Safe_p4, f17, f18, f19, hlt, a3, s2, k0, k2, List.length_cons, List.length_nil]; rfl) ?_
    refine WS_call (by simp only [go_sem, eRun_exit, Nat.reduceAdd, Nat.reduceLT, Nat.reduceEqDiff, reduceIte, reduceCtorEq, Int.reduceBEq, Int.reduceBNe, Int.reduceLT, Int.reduceLE, Int.reduceGT, Int.reduceGE, Int.reduceEq, Int.reduceAdd, Int.reduceSub, Int.reduceMul, Nat.reduceMul, Nat.reduceSub, Nat.reduceLeDiff]) (by simp only [go_sem, eRun_exit, Nat.reduceAdd, Nat.reduceLT, Nat.reduceEqDiff, reduceIte, reduceCtorEq, Int.reduceBEq, Int.reduceBNe, Int.reduceLT, Int.reduceLE, Int.reduceGT, Int.reduceGE, Int.reduceEq, Int.reduceAdd, Int.reduceSub, Int.reduceMul, Nat.reduceMul, Nat.reduceSub, Nat.reduceLeDiff]; rfl) ?_
    refine vars_ok C (hru.frm r2 fun _ _ h => h) (by omega) fun v w3 S3 q1 q2 q3 => ?_
    have r3 := r2.tr q2
    have n3 := r3.next
    have hlv := q1.lenV
    have hM3 := hA.mp.frm r3 fun h => h
    have hbmw := hA.mp.lt
    refine WS_run 1000 (by simp only [go_sem, eRun_exit, Nat.reduceAdd, Nat.reduceLT, Nat.reduceEqDiff, reduceIte, reduceCtorEq, Int.reduceBEq, Int.reduceBNe, Int.reduceLT, Int.reduceLE, Int.reduceGT, Int.reduceGE, Int.reduceEq, Int.reduceAdd, Int.reduceSub, Int.reduceMul, Nat.reduceMul, Nat.reduceSub, Nat.reduceLeDiff, hlv]; rfl) ?_
    refine WS_loopJ (CntI w3 bm v (cVars t.args) bnd N f) (CntJ w3 bm (cVars t.args) bnd N f) (fun n f w hI ih out => cnt_step q1.rd (fun x hx he => by have := (q3 x hx).1; omega) (by have := hbd.body; omega) hI ih out) ?_ (cVars t.args).length
      ⟨0, M, bnd, (by simp only [go_sem, eRun_exit, Nat.reduceAdd, Nat.reduceLT, Nat.reduceEqDiff, reduceIte, reduceCtorEq, Int.reduceBEq, Int.reduceBNe, Int.reduceLT, Int.reduceLE, Int.reduceGT, Int.reduceGE, Int.reduceEq, Int.reduceAdd, Int.reduceSub, Int.reduceMul, Nat.reduceMul, Nat.reduceSub, Nat.reduceLeDiff, f3] <;> rfl), (by simp only [go_sem, eRun_exit, Nat.reduceAdd, Nat.reduceLT, Nat.reduceEqDiff, reduceIte, reduceCtorEq, Int.reduceBEq, Int.reduceBNe, Int.reduceLT, Int.reduceLE, Int.reduceGT, Int.reduceGE, Int.reduceEq, Int.reduceAdd, Int.reduceSub, Int.reduceMul, Nat.reduceMul, Nat.reduceSub, Nat.reduceLeDiff] <;> rfl), (by simp only [go_sem, eRun_exit, Nat.reduceAdd, Nat.reduceLT, Nat.reduceEqDiff, reduceIte, reduceCtorEq, Int.reduceBEq, Int.reduceBNe, Int.reduceLT, Int.reduceLE, Int.reduceGT, Int.reduceGE, Int.reduceEq, Int.reduceAdd, Int.reduceSub, Int.reduceMul, Nat.reduceMul, Nat.reduceSub, Nat.reduceLeDiff] <;> rfl), (by simp only [go_sem, eRun_exit, Nat.reduceAdd, Nat.reduceLT, Nat.reduceEqDiff, reduceIte, reduceCtorEq, Int.reduceBEq, Int.reduceBNe, Int.reduceLT, Int.reduceLE, Int.reduceGT, Int.reduceGE, Int.reduceEq, Int.reduceAdd, Int.reduceSub, Int.reduceMul, Nat.reduceMul, Nat.reduceSub, Nat.reduceLeDiff] <;> rfl), ?_, by omega, rfl, hM3, hA.seen, by simp, Frm.refl _, rfl⟩
    · rintro f' w4 ⟨M', bnd', g3, hold, hM4, hs4, hb4, hf4, hn4⟩
      have g1 := (hold 1 (by simp)).trans f1
      have g4 := (hold 4 (by simp)).trans f4
      have g17 := (hold 17 (by simp)).trans f17
      have g18 := (hold 18 (by simp)).trans f18
      have g19 := (hold 19 (by simp)).trans f19
      refine WS_run 1000 (by simp only [go_sem, eRun_exit, Nat.reduceAdd, Nat.reduceLT, Nat.reduceEqDiff, reduceIte, reduceCtorEq, Int.reduceBEq, Int.reduceBNe, Int.reduceLT, Int.reduceLE, Int.reduceGT, Int.reduceGE, Int.reduceEq, Int.reduceAdd, Int.reduceSub, Int.reduceMul, Nat.reduceMul, Nat.reduceSub, Nat.reduceLeDiff, g19, hwr]; rfl) ?_
      exact ih _ _ _ (by omega) ⟨i + 1, M', bnd', bl ++ cVars t.args, N + (cVars t.args).length, nv, nd, S, ⟨(by simp only [go_sem, eRun_exit, Nat.reduceAdd, Nat.reduceLT, Nat.reduceEqDiff, reduceIte, reduceCtorEq, Int.reduceBEq, Int.reduceBNe, Int.reduceLT, Int.reduceLE, Int.reduceGT, Int.reduceGE, Int.reduceEq, Int.reduceAdd, Int.reduceSub, Int.reduceMul, Nat.reduceMul, Nat.reduceSub, Nat.reduceLeDiff, g1] <;> rfl), (by simp only [go_sem, eRun_exit, Nat.reduceAdd, Nat.reduceLT, Nat.reduceEqDiff, reduceIte, reduceCtorEq, Int.reduceBEq, Int.reduceBNe, Int.reduceLT, Int.reduceLE, Int.reduceGT, Int.reduceGE, Int.reduceEq, Int.reduceAdd, Int.reduceSub, Int.reduceMul, Nat.reduceMul, Nat.reduceSub, Nat.reduceLeDiff, g3] <;> rfl), (by simp only [go_sem, eRun_exit, Nat.reduceAdd, Nat.reduceLT, Nat.reduceEqDiff, reduceIte, reduceCtorEq, Int.reduceBEq, Int.reduceBNe, Int.reduceLT, Int.reduceLE, Int.reduceGT, Int.reduceGE, Int.reduceEq, Int.reduceAdd, Int.reduceSub, Int.reduceMul, Nat.reduceMul, Nat.reduceSub, Nat.reduceLeDiff, g4] <;> rfl), (by simp only [go_sem, eRun_exit, Nat.reduceAdd, Nat.reduceLT, Nat.reduceEqDiff, reduceIte, reduceCtorEq, Int.reduceBEq, Int.reduceBNe, Int.reduceLT, Int.reduceLE, Int.reduceGT, Int.reduceGE, Int.reduceEq, Int.reduceAdd, Int.reduceSub, Int.reduceMul, Nat.reduceMul, Nat.reduceSub, Nat.reduceLeDiff, g17] <;> rfl), (by simp only [go_sem, eRun_exit, Nat.reduceAdd, Nat.reduceLT, Nat.reduceEqDiff, reduceIte, reduceCtorEq, Int.reduceBEq, Int.reduceBNe, Int.reduceLT, Int.reduceLE, Int.reduceGT, Int.reduceGE, Int.reduceEq, Int.reduceAdd, Int.reduceSub, Int.reduceMul, Nat.reduceMul, Nat.reduceSub, Nat.reduceLeDiff, g18] <;> rfl), (by simp only [go_sem, eRun_exit, Nat.reduceAdd, Nat.reduceLT, Nat.reduceEqDiff, reduceIte, reduceCtorEq, Int.reduceBEq, Int.reduceBNe, Int.reduceLT, Int.reduceLE, Int.reduceGT, Int.reduceGE, Int.reduceEq, Int.reduceAdd, Int.reduceSub, Int.reduceMul, Nat.reduceMul, Nat.reduceSub, Nat.reduceLeDiff] <;> rfl)⟩, ⟨hM4, hs4, fun x => by rw [hb4, hA.same, List.mem_append], (hA.need.frm r3 fun _ _ h => h).frm hf4 fun x hx he => (hA.sep x hx).2.2 he, (hA.frm.tr r3).trans hf4 (fun _ _ h => h) (by rintro x hx rfl; have := hA.hbm; omega), hA.hbm, fun x hx => by have := hA.sep x hx; exact ⟨this.1, by omega, this.2.2⟩⟩, by omega, rfl, hnd, hbl, by omega, by omega⟩
    · rintro y hy
      rcases hy with rfl | rfl | rfl | rfl | rfl | rfl <;> exact (by simp only [go_sem, eRun_exit, Nat.reduceAdd, Nat.reduceLT, Nat.reduceEqDiff, reduceIte, reduceCtorEq, Int.reduceBEq, Int.reduceBNe, Int.reduceLT, Int.reduceLE, Int.reduceGT, Int.reduceGE, Int.reduceEq, Int.reduceAdd, Int.reduceSub, Int.reduceMul, Nat.reduceMul, Nat.reduceSub, Nat.reduceLeDiff] <;> rfl)
def NdI (aw : AW) (bm : Nat) (nv : V) (nd bl : List (List Nat)) (w0 : AW) (q : Nat) (f : Fr) (w : AW) : Prop :=
  ∃ j, f.get 3 = some (.map bm) ∧ f.get 45 = some nv ∧ f.get 46 = some (.int .i64 (Int.ofNat nd.length)) ∧ f.get 47 = some (.int .i64 (Int.ofNat j)) ∧ j ≤ nd.length ∧ q = nd.length - j ∧ (∀ x ∈ nd.take j, x ∈ bl) ∧ w = w0
/-- Safe. -/
theorem safe_ok (C : Codes tab) {T : Nat → Prop} {aw : AW} {xs : List V} {r : Rl} {K : V → AW → Prop} (hr : RlC T aw r xs) (hbd : RBd r) (h : ∀ w, Frm (fun _ => False) aw w → K (.bool (cSafe r)) w) : WF tab n_check_Safe [.agg xs] aw K := by
  refine WF_of C.c_check_Safe rfl ?_
  have hone := hr.one
  obtain ⟨v, u, rfl, hv, hu⟩ := hr
  have cb := fresh_cb aw [V.int .i64 (Int.ofNat r.head.kind), .str r.head.name, v, u]
  have ff := fresh_frm (S := fun _ => False) aw [V.int .i64 (Int.ofNat r.head.kind), .str r.head.name, v, u]
  generalize hw1 : aw.fresh [V.int .i64 (Int.ofNat r.head.kind), .str r.head.name, v, u] = w1 at cb ff
  have n1 : w1.next = aw.next + 1 := by rw [← hw1]; rfl
  have fm := mnew_frm (S := fun _ => False) w1
  have cb2 := cb.frm fm fun h => h
  have l2 : (w1.new (.map [] 0)).load aw.next 2 1 = some [v] := by rw [cb2.load]; rfl
  have f02 := ff.tr fm
  refine WS_run 1000 (by simp only [go_sem, eRun_exit, Nat.reduceAdd, Nat.reduceLT, Nat.reduceEqDiff, reduceIte, reduceCtorEq, Int.reduceBEq, Int.reduceBNe, Int.reduceLT, Int.reduceLE, Int.reduceGT, Int.reduceGE, Int.reduceEq, Int.reduceAdd, Int.reduceSub, Int.reduceMul, Nat.reduceMul, Nat.reduceSub, Nat.reduceLeDiff, k_check_Safe, k_check_Safe_p12, hw1, l2]; rfl) ?_
  refine WS_call (by simp only [go_sem, eRun_exit, Nat.reduceAdd, Nat.reduceLT, Nat.reduceEqDiff, reduceIte, reduceCtorEq, Int.reduceBEq, Int.reduceBNe, Int.reduceLT, Int.reduceLE, Int.reduceGT, Int.reduceGE, Int.reduceEq, Int.reduceAdd, Int.reduceSub, Int.reduceMul, Nat.reduceMul, Nat.reduceSub, Nat.reduceLeDiff]) (by simp only [go_sem, eRun_exit, Nat.reduceAdd, Nat.reduceLT, Nat.reduceEqDiff, reduceIte, reduceCtorEq, Int.reduceBEq, Int.reduceBNe, Int.reduceLT, Int.reduceLE, Int.reduceGT, Int.reduceGE, Int.reduceEq, Int.reduceAdd, Int.reduceSub, Int.reduceMul, Nat.reduceMul, Nat.reduceSub, Nat.reduceLeDiff]; rfl) ?_
  refine vars_ok C (hv.frm f02 fun _ _ h => h) (by have := hbd.head; omega) fun nv w3 S3 q1 q2 q3 => ?_
  have cb3 := cb2.frm q2 fun h => h
  have l3 : w3.load aw.next 3 1 = some [u] := by rw [cb3.load]; rfl
  have f03 := f02.tr q2
  have hlv := rdL_lenV hu
  have nn : (w1.new (.map [] 0)).next = w1.next + 1 := rfl
  have hvl := cVars_len r.head.args
  have hM : SM w3 w1.next ([] : List (List Nat × Int)) := (MB.new w1).frm q2 fun h => h
  refine WS_run 1000 (by simp only [go_sem, eRun_exit, Nat.reduceAdd, Nat.reduceLT, Nat.reduceEqDiff, reduceIte, reduceCtorEq, Int.reduceBEq, Int.reduceBNe, Int.reduceLT, Int.reduceLE, Int.reduceGT, Int.reduceGE, Int.reduceEq, Int.reduceAdd, Int.reduceSub, Int.reduceMul, Nat.reduceMul, Nat.reduceSub, Nat.reduceLeDiff, k_check_Safe_p11, l3, hlv]; rfl) ?_
  refine WS_loopJ (SafI aw aw.next w1.next u r) (SafJ aw w1.next r) (fun n f w hI ih out => safe_step C hu hbd hI ih out) ?_ r.body.length
    ⟨0, [], [], [], 0, nv, cVars r.head.args, S3, ⟨(by simp only [go_sem, eRun_exit, Nat.reduceAdd, Nat.reduceLT, Nat.reduceEqDiff, reduceIte, reduceCtorEq, Int.reduceBEq, Int.reduceBNe, Int.reduceLT, Int.reduceLE, Int.reduceGT, Int.reduceGE, Int.reduceEq, Int.reduceAdd, Int.reduceSub, Int.reduceMul, Nat.reduceMul, Nat.reduceSub, Nat.reduceLeDiff] <;> rfl), (by simp only [go_sem, eRun_exit, Nat.reduceAdd, Nat.reduceLT, Nat.reduceEqDiff, reduceIte, reduceCtorEq, Int.reduceBEq, Int.reduceBNe, Int.reduceLT, Int.reduceLE, Int.reduceGT, Int.reduceGE, Int.reduceEq, Int.reduceAdd, Int.reduceSub, Int.reduceMul, Nat.reduceMul, Nat.reduceSub, Nat.reduceLeDiff] <;> rfl), (by simp only [go_sem, eRun_exit, Nat.reduceAdd, Nat.reduceLT, Nat.reduceEqDiff, reduceIte, reduceCtorEq, Int.reduceBEq, Int.reduceBNe, Int.reduceLT, Int.reduceLE, Int.reduceGT, Int.reduceGE, Int.reduceEq, Int.reduceAdd, Int.reduceSub, Int.reduceMul, Nat.reduceMul, Nat.reduceSub, Nat.reduceLeDiff] <;> rfl), (by simp only [go_sem, eRun_exit, Nat.reduceAdd, Nat.reduceLT, Nat.reduceEqDiff, reduceIte, reduceCtorEq, Int.reduceBEq, Int.reduceBNe, Int.reduceLT, Int.reduceLE, Int.reduceGT, Int.reduceGE, Int.reduceEq, Int.reduceAdd, Int.reduceSub, Int.reduceMul, Nat.reduceMul, Nat.reduceSub, Nat.reduceLeDiff] <;> rfl), (by simp only [go_sem, eRun_exit, Nat.reduceAdd, Nat.reduceLT, Nat.reduceEqDiff, reduceIte, reduceCtorEq, Int.reduceBEq, Int.reduceBNe, Int.reduceLT, Int.reduceLE, Int.reduceGT, Int.reduceGE, Int.reduceEq, Int.reduceAdd, Int.reduceSub, Int.reduceMul, Nat.reduceMul, Nat.reduceSub, Nat.reduceLeDiff] <;> rfl), (by simp only [go_sem, eRun_exit, Nat.reduceAdd, Nat.reduceLT, Nat.reduceEqDiff, reduceIte, reduceCtorEq, Int.reduceBEq, Int.reduceBNe, Int.reduceLT, Int.reduceLE, Int.reduceGT, Int.reduceGE, Int.reduceEq, Int.reduceAdd, Int.reduceSub, Int.reduceMul, Nat.reduceMul, Nat.reduceSub, Nat.reduceLeDiff] <;> rfl)⟩, ⟨hM, fun x => ⟨by simp [aget], fun c hc => by simp [aget] at hc⟩, fun x => Iff.rfl, q1, f03, by omega, fun x hx => by have := q3 x hx; exact ⟨by omega, by omega, by omega⟩⟩, by omega, rfl, rfl, rfl, by omega, by have := hbd.head; omega⟩
  rintro f w ⟨M, bnd, N, nv', S, f3, f4, hA, hN⟩
  have hln := hA.need.lenV
  refine WS_run 1000 (by simp only [go_sem, eRun_exit, Nat.reduceAdd, Nat.reduceLT, Nat.reduceEqDiff, reduceIte, reduceCtorEq, Int.reduceBEq, Int.reduceBNe, Int.reduceLT, Int.reduceLE, Int.reduceGT, Int.reduceGE, Int.reduceEq, Int.reduceAdd, Int.reduceSub, Int.reduceMul, Nat.reduceMul, Nat.reduceSub, Nat.reduceLeDiff, f4, hln]; rfl) ?_
  refine WS_loopJ (NdI aw w1.next nv' (rNeed r) (rBound r) w) (fun f' w' => w' = w ∧ ∀ x ∈ rNeed r, x ∈ rBound r) ?_ ?_ (rNeed r).length ⟨0, (by simp only [go_sem, eRun_exit, Nat.reduceAdd, Nat.reduceLT, Nat.reduceEqDiff, reduceIte, reduceCtorEq, Int.reduceBEq, Int.reduceBNe, Int.reduceLT, Int.reduceLE, Int.reduceGT, Int.reduceGE, Int.reduceEq, Int.reduceAdd, Int.reduceSub, Int.reduceMul, Nat.reduceMul, Nat.reduceSub, Nat.reduceLeDiff, f3] <;> rfl), (by simp only [go_sem, eRun_exit, Nat.reduceAdd, Nat.reduceLT, Nat.reduceEqDiff, reduceIte, reduceCtorEq, Int.reduceBEq, Int.reduceBNe, Int.reduceLT, Int.reduceLE, Int.reduceGT, Int.reduceGE, Int.reduceEq, Int.reduceAdd, Int.reduceSub, Int.reduceMul, Nat.reduceMul, Nat.reduceSub, Nat.reduceLeDiff] <;> rfl), (by simp only [go_sem, eRun_exit, Nat.reduceAdd, Nat.reduceLT, Nat.reduceEqDiff, reduceIte, reduceCtorEq, Int.reduceBEq, Int.reduceBNe, Int.reduceLT, Int.reduceLE, Int.reduceGT, Int.reduceGE, Int.reduceEq, Int.reduceAdd, Int.reduceSub, Int.reduceMul, Nat.reduceMul, Nat.reduceSub, Nat.reduceLeDiff] <;> rfl), (by simp only [go_sem, eRun_exit, Nat.reduceAdd, Nat.reduceLT, Nat.reduceEqDiff, reduceIte, reduceCtorEq, Int.reduceBEq, Int.reduceBNe, Int.reduceLT, Int.reduceLE, Int.reduceGT, Int.reduceGE, Int.reduceEq, Int.reduceAdd, Int.reduceSub, Int.reduceMul, Nat.reduceMul, Nat.reduceSub, Nat.reduceLeDiff] <;> rfl), by omega, rfl, by simp, rfl⟩
  · rintro q f w' ⟨j, f3, f45, f46, f47, hj, rfl, hall, rfl⟩ ih exit
    by_cases hlt : j < (rNeed r).length
    case neg =>
      rw [List.take_of_length_le (by omega)] at hall
      refine WS_runB 1000 (by simp only [go_sem, Nat.reduceAdd, Nat.reduceLT, Nat.reduceEqDiff, reduceIte, reduceCtorEq, Int.reduceBEq, Int.reduceBNe, Int.reduceLT, Int.reduceLE, Int.reduceGT, Int.reduceGE, Int.reduceEq, Int.reduceAdd, Int.reduceSub, Int.reduceMul, Nat.reduceMul, Nat.reduceSub, Nat.reduceLeDiff, k_check_Safe_p10, f46, f47, hlt]; rfl) ?_
      exact exit _ _ _ ⟨rfl, hall⟩ rfl
    obtain ⟨x, hx⟩ : ∃ v, (rNeed r)[j]? = some v := ⟨_, List.getElem?_eq_getElem hlt⟩
    obtain ⟨b, o, c, rfl, _, hbl, a1⟩ := strs_at hA.need.rd hx
    obtain ⟨n, hn0, hn1, hgn⟩ := seen_look hA.seen x
    have look := hA.mp.look strKey (.int .i64 0) x
    rw [hgn] at look
    have hwr : IntKind.wrap .i64 (Int.ofNat j + 1) = Int.ofNat (j + 1) := by
      have : (rNeed r).length < 9223372036854775807 := by
        have := hA.need.rd
        rcases hA.need.rd.inv with ⟨h1, _⟩ | ⟨b', o', c', h1, hB⟩
        · cases h1
        · have h3 : ∀ (l : List Lt) (acc : List (List Nat)), (∀ l' ∈ l, l'.args.length ≤ 1000) → (l.foldl needL acc).length ≤ acc.length + 1000 * l.length := by
            intro l
            induction l with
            | nil => intro acc _; simp
            | cons t l ih =>
              intro acc hl
              have h4 := ih (needL acc t) fun l' hl' => hl l' (by simp [hl'])
              have h5 : (needL acc t).length ≤ acc.length + 1000 := by
                unfold needL
                split
                · omega
                · have := cVars_len t.args; have := hl t (by simp); rw [List.length_append]; omega
              rw [List.foldl_cons, List.length_cons]
              omega
          have h4 := h3 r.body (cVars r.head.args) hbd.args
          rw [← rNeed_eq] at h4
          have := hbd.head; have := hbd.body
          omega
      exact wrap_succ (by omega)
    by_cases hz : n = 0
    · have hno : x ∉ rBound r := fun h => hn1.1 hz ((hA.same x).2 h)
      have hs : cSafe r = false := by
        unfold cSafe
        rw [List.all_eq_false]
        exact ⟨x, List.mem_of_getElem? hx, by simpa using hno⟩
      subst hz
      refine WS_run 1000 (by simp only [go_sem, eRun_exit, Nat.reduceAdd, Nat.reduceLT, Nat.reduceEqDiff, reduceIte, reduceCtorEq, Int.reduceBEq, Int.reduceBNe, Int.reduceLT, Int.reduceLE, Int.reduceGT, Int.reduceGE, Int.reduceEq, Int.reduceAdd, Int.reduceSub, Int.reduceMul, Nat.reduceMul, Nat.reduceSub, Nat.reduceLeDiff, k_check_Safe_p10, k_check_Safe_p9, k_check_Safe_p8, k_check_Safe_p7, f3, f45, f46, f47, hlt, a1, look]; rfl) ?_
      refine WS_ret ⟨_, by simp only [go_sem, eRun_exit, Nat.reduceAdd, Nat.reduceLT, Nat.reduceEqDiff, reduceIte, reduceCtorEq, Int.reduceBEq, Int.reduceBNe, Int.reduceLT, Int.reduceLE, Int.reduceGT, Int.reduceGE, Int.reduceEq, Int.reduceAdd, Int.reduceSub, Int.reduceMul, Nat.reduceMul, Nat.reduceSub, Nat.reduceLeDiff, k_check_Safe]; rfl, ?_⟩
      have := h w' hA.frm
      rw [hs] at this; exact this
    · refine WS_run 1000 (by simp only [go_sem, eRun_exit, Nat.reduceAdd, Nat.reduceLT, Nat.reduceEqDiff, reduceIte, reduceCtorEq, Int.reduceBEq, Int.reduceBNe, Int.reduceLT, Int.reduceLE, Int.reduceGT, Int.reduceGE, Int.reduceEq, Int.reduceAdd, Int.reduceSub, Int.reduceMul, Nat.reduceMul, Nat.reduceSub, Nat.reduceLeDiff, k_check_Safe_p10, k_check_Safe_p9, k_check_Safe_p8, f3, f45, f46, f47, hlt, a1, look, hz, hwr]; rfl) ?_
      refine ih _ _ _ (by omega) ⟨j + 1, (by simp only [go_sem, eRun_exit, Nat.reduceAdd, Nat.reduceLT, Nat.reduceEqDiff, reduceIte, reduceCtorEq, Int.reduceBEq, Int.reduceBNe, Int.reduceLT, Int.reduceLE, Int.reduceGT, Int.reduceGE, Int.reduceEq, Int.reduceAdd, Int.reduceSub, Int.reduceMul, Nat.reduceMul, Nat.reduceSub, Nat.reduceLeDiff, f3] <;> rfl), (by simp only [go_sem, eRun_exit, Nat.reduceAdd, Nat.reduceLT, Nat.reduceEqDiff, reduceIte, reduceCtorEq, Int.reduceBEq, Int.reduceBNe, Int.reduceLT, Int.reduceLE, Int.reduceGT, Int.reduceGE, Int.reduceEq, Int.reduceAdd, Int.reduceSub, Int.reduceMul, Nat.reduceMul, Nat.reduceSub, Nat.reduceLeDiff, f45] <;> rfl), (by simp only [go_sem, eRun_exit, Nat.reduceAdd, Nat.reduceLT, Nat.reduceEqDiff, reduceIte, reduceCtorEq, Int.reduceBEq, Int.reduceBNe, Int.reduceLT, Int.reduceLE, Int.reduceGT, Int.reduceGE, Int.reduceEq, Int.reduceAdd, Int.reduceSub, Int.reduceMul, Nat.reduceMul, Nat.reduceSub, Nat.reduceLeDiff, f46] <;> rfl), (by simp only [go_sem, eRun_exit, Nat.reduceAdd, Nat.reduceLT, Nat.reduceEqDiff, reduceIte, reduceCtorEq, Int.reduceBEq, Int.reduceBNe, Int.reduceLT, Int.reduceLE, Int.reduceGT, Int.reduceGE, Int.reduceEq, Int.reduceAdd, Int.reduceSub, Int.reduceMul, Nat.reduceMul, Nat.reduceSub, Nat.reduceLeDiff] <;> rfl), by omega, rfl, fun y hy => ?_, rfl⟩
      have ht : (rNeed r).take (j + 1) = (rNeed r).take j ++ [x] := by rw [List.take_add_one, hx]; rfl
      rw [ht, List.mem_append, List.mem_singleton] at hy
      rcases hy with hy | rfl
      · exact hall y hy
      · exact (hA.same y).1 (Classical.byContradiction fun hc => hz (hn1.2 hc))
  · rintro f w' ⟨rfl, hall⟩
    have hs : cSafe r = true := by
      unfold cSafe
      rw [List.all_eq_true]
      intro x hx
      simpa using hall x hx
    refine WS_run 1000 (by simp only [go_sem, eRun_exit, Nat.reduceAdd, Nat.reduceLT, Nat.reduceEqDiff, reduceIte, reduceCtorEq, Int.reduceBEq, Int.reduceBNe, Int.reduceLT, Int.reduceLE, Int.reduceGT, Int.reduceGE, Int.reduceEq, Int.reduceAdd, Int.reduceSub, Int.reduceMul, Nat.reduceMul, Nat.reduceSub, Nat.reduceLeDiff]; rfl) ?_
    refine WS_ret ⟨_, by simp only [go_sem, eRun_exit, Nat.reduceAdd, Nat.reduceLT, Nat.reduceEqDiff, reduceIte, reduceCtorEq, Int.reduceBEq, Int.reduceBNe, Int.reduceLT, Int.reduceLE, Int.reduceGT, Int.reduceGE, Int.reduceEq, Int.reduceAdd, Int.reduceSub, Int.reduceMul, Nat.reduceMul, Nat.reduceSub, Nat.reduceLeDiff, k_check_Safe]; rfl, ?_⟩
    have := h w' hA.frm
    rw [hs] at this; exact this
end Go.Proofs.Ytjidefnbancmfaa
