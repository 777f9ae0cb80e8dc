/- A part of the proof: PChk8, PChk9, PChk10, PChk11, PChk12. -/
import Derived.Test.YtjidefnbancmfaaKrM
/- The reference's Preds. -/
set_option linter.unusedVariables false
set_option maxRecDepth 10000
set_option linter.unusedSimpArgs false
namespace Delphi
open Go.AE
def rSee (s : Ps × Bool) (p : List Nat × Int) : Ps × Bool :=
  match aget s.1 p.1 with
  | some k => (s.1, s.2 && decide (k = p.2))
  | none => (s.1 ++ [p], s.2)
def rsees (s : Ps × Bool) (l : Ps) : Ps × Bool := l.foldl rSee s
theorem rsees_app (s : Ps × Bool) (a b : Ps) : rsees s (a ++ b) = rsees (rsees s a) b := List.foldl_append ..
theorem rSee_len (s : Ps × Bool) (p : List Nat × Int) : (rSee s p).1.length ≤ s.1.length + 1 := by
  unfold rSee; split <;> simp
theorem rsees_len : ∀ (l : Ps) (s : Ps × Bool), (rsees s l).1.length ≤ s.1.length + l.length
  | [], s => by simp [rsees]
  | p :: l, s => by
    have h1 := rsees_len l (rSee s p)
    have h2 := rSee_len s p
    have e : rsees s (p :: l) = rsees (rSee s p) l := rfl
    rw [e, List.length_cons]; omega
theorem aput_same : ∀ {M : Ps} {k : List Nat} {v : Int}, aget M k = some v → aput M k v = M
  | [], k, v, h => by simp [aget] at h
  | (a, b) :: M, k, v, h => by
    by_cases hk : k = a
    · subst hk; simp [aget] at h; subst h; simp [aput]
    · simp only [aget, if_neg hk] at h; simp only [aput, if_neg hk, aput_same h]
/-- both see the same. -/
def SameS (a b : Ps × Bool) : Prop := a.2 = b.2 ∧ (a.2 = true → a.1 = b.1)
theorem see_same {a b : Ps × Bool} (h : SameS a b) (p : List Nat × Int) : SameS (pSee a p) (rSee b p) := by
  obtain ⟨M, f⟩ := a
  obtain ⟨L, o⟩ := b
  obtain ⟨h1, h2⟩ := h
  simp only at h1 h2
  subst h1
  cases f with
  | false =>
    constructor
    · simp only [pSee, rSee, Bool.false_and]; split <;> simp
    · simp [pSee]
  | true =>
    have := h2 rfl
    subst this
    cases hg : aget M p.1 with
    | none => simp [SameS, pSee, rSee, hg, aput_none hg]
    | some k =>
      by_cases hk : k = p.2
      · subst hk; simp [SameS, pSee, rSee, hg, aput_same hg]
      · simp [SameS, pSee, rSee, hg, hk]
theorem sees_same : ∀ (l : Ps) {a b : Ps × Bool}, SameS a b → SameS (sees a l) (rsees b l)
  | [], a, b, h => h
  | p :: l, a, b, h => sees_same l (see_same h p)
/-- no name twice. -/
def Once (L : Ps) : Prop := ∀ (i : Nat) (p : List Nat × Int), L[i]? = some p → aget L p.1 = some p.2
theorem aget_app : ∀ (L : Ps) (k : List Nat) (M : Ps), aget (L ++ M) k = (match aget L k with | some v => some v | none => aget M k)
  | [], k, M => rfl
  | (a, b) :: L, k, M => by
    by_cases hk : k = a
    · simp [aget, hk]
    · simp only [List.cons_append, aget, if_neg hk, aget_app L k M]
theorem once_see {s : Ps × Bool} (h : Once s.1) (p : List Nat × Int) : Once (rSee s p).1 := by
  unfold rSee
  split
  · exact h
  · rename_i hn
    intro i q hq
    simp only at hq ⊢
    rw [aget_app]
    by_cases hi : i < s.1.length
    · rw [List.getElem?_append_left hi] at hq
      rw [h i q hq]
    · rw [List.getElem?_append_right (by omega)] at hq
      cases hj : i - s.1.length with
      | zero =>
        rw [hj] at hq
        simp only [List.getElem?_cons_zero, Option.some.injEq] at hq
        subst hq
        rw [hn]; simp [aget]
      | succ j => rw [hj] at hq; simp at hq
theorem once_sees : ∀ (l : Ps) {s : Ps × Bool}, Once s.1 → Once (rsees s l).1
  | [], s, h => h
  | p :: l, s, h => once_sees l (once_see h p)
theorem litP_len (l : Lt) : (litP l).length ≤ 1 := by unfold litP; split <;> simp
theorem flat_le {α : Type} (f : α → Ps) (hf : ∀ x, (f x).length ≤ 1) : ∀ (l : List α), (l.flatMap f).length ≤ l.length
  | [] => by simp
  | x :: l => by rw [List.flatMap_cons, List.length_append, List.length_cons]; have := hf x; have := flat_le f hf l; omega
theorem ruleP_len (r : Rl) : (ruleP r).length ≤ r.body.length + 1 := by
  have := flat_le litP litP_len r.body
  simp only [ruleP, List.length_cons]; omega
theorem rules_len : ∀ (l : List Rl), (∀ r ∈ l, RBd r) → (l.flatMap ruleP).length ≤ 1001 * l.length
  | [], _ => by simp
  | r :: l, h => by
    have h1 := rules_len l fun r hr => h r (by simp [hr])
    have h2 := ruleP_len r
    have h3 := (h r (by simp)).body
    rw [List.flatMap_cons, List.length_append, List.length_cons]; omega
end Delphi
namespace Go.Proofs.Ytjidefnbancmfaa
open Go.AE Delphi
variable {tab : Tab}
def nmsC (L : Ps) : List V := L.map fun p => V.str p.1
def wdtC (L : Ps) : List V := L.map fun p => V.int .i64 p.2
/-- names and widths. -/
structure NW (aw w : AW) (nv wv : V) (L : Ps) (S1 S2 : Nat → Prop) : Prop where
  a : Bt S1 w nv 1 L.length (nmsC L)
  b : Bt S2 w wv 1 L.length (wdtC L)
  s1 : ∀ x, S1 x → aw.next ≤ x ∧ x < w.next ∧ ¬ S2 x
  s2 : ∀ x, S2 x → aw.next ≤ x ∧ x < w.next
  frm : Frm (fun _ => False) aw w
theorem NW.ext {aw w w2 : AW} {nv wv : V} {L : Ps} {S1 S2 : Nat → Prop} (h : NW aw w nv wv L S1 S2) (hf : Frm (fun _ => False) w w2) : NW aw w2 nv wv L S1 S2 :=
  ⟨h.a.frm hf fun _ _ h => h, h.b.frm hf fun _ _ h => h, fun x hx => by have h1 := h.s1 x hx; have := hf.next; exact ⟨by omega, by omega, h1.2.2⟩, fun x hx => by have h1 := h.s2 x hx; have := hf.next; exact ⟨by omega, by omega⟩, h.frm.tr hf⟩
def PrI (nv wv : V) (L : Ps) (nm : List Nat) (n : Int) (ok : Bool) (w0 : AW) (q : Nat) (f : Fr) (w : AW) : Prop :=
  ∃ i, f.get 0 = some nv ∧ f.get 1 = some wv ∧ f.get 2 = some (.str nm) ∧ f.get 3 = some (.int .i64 n) ∧ f.get 4 = some (.bool ok) ∧ f.get 13 = some (.int .i64 (Int.ofNat i)) ∧ i ≤ L.length ∧ q = L.length - i ∧ aget L nm = aget (L.drop i) nm ∧ w = w0
theorem eqL_dec (a b : List Nat) : eqL a b = decide (a = b) := by
  by_cases h : a = b
  · rw [decide_eq_true h]; exact eqL_iff.2 h
  · rw [decide_eq_false h]
    cases hc : eqL a b with
    | false => rfl
    | true => exact absurd (eqL_iff.1 hc) h
/-- pred. -/
theorem pred_ok (C : Codes tab) {aw w : AW} {nv wv : V} {L : Ps} {S1 S2 : Nat → Prop} {nm : List Nat} {n : Nat} {ok : Bool} {K : V → AW → Prop} (hA : NW aw w nv wv L S1 S2) (hL : L.length ≤ 10000000)
    (h : ∀ w' nv' wv' S1' S2', NW aw w' nv' wv' (rSee (L, ok) (nm, (n : Int))).1 S1' S2' → Frm (fun x => S1 x ∨ S2 x) w w' → (∀ x, S1' x ∨ S2' x → (S1 x ∨ S2 x) ∨ w.next ≤ x) → K (.tuple [nv', wv', .bool (rSee (L, ok) (nm, (n : Int))).2]) w') : WF tab n_ref8_pred [nv, wv, .str nm, .int .i64 (Int.ofNat n), .bool ok] w K := by
  refine WF_of C.c_ref8_pred rfl ?_
  have hlv := hA.a.lenV
  refine WS_run 1000 (by simp only [go_sem, eRun_exit, Nat.reduceAdd, Nat.reduceLT, Nat.reduceEqDiff, reduceIte, reduceCtorEq, Int.reduceBEq, Int.reduceBNe, Int.reduceLT, Int.reduceLE, Int.reduceGT, Int.reduceGE, Int.reduceEq, Int.reduceAdd, Int.reduceSub, Int.reduceMul, Nat.reduceMul, Nat.reduceSub, Nat.reduceLeDiff, k_ref8_pred]; rfl) ?_
  refine WS_loopJ (PrI nv wv L nm (n : Int) ok w) (fun f w' => f.get 0 = some nv ∧ f.get 1 = some wv ∧ f.get 2 = some (.str nm) ∧ f.get 3 = some (.int .i64 (n : Int)) ∧ f.get 4 = some (.bool ok) ∧ aget L nm = none ∧ w' = w) ?_ ?_ L.length ⟨0, (by simp only [go_sem, eRun_exit, Nat.reduceAdd, Nat.reduceLT, Nat.reduceEqDiff, reduceIte, reduceCtorEq, Int.reduceBEq, Int.reduceBNe, Int.reduceLT, Int.reduceLE, Int.reduceGT, Int.reduceGE, Int.reduceEq, Int.reduceAdd, Int.reduceSub, Int.reduceMul, Nat.reduceMul, Nat.reduceSub, Nat.reduceLeDiff] <;> rfl), (by simp only [go_sem, eRun_exit, Nat.reduceAdd, Nat.reduceLT, Nat.reduceEqDiff, reduceIte, reduceCtorEq, Int.reduceBEq, Int.reduceBNe, Int.reduceLT, Int.reduceLE, Int.reduceGT, Int.reduceGE, Int.reduceEq, Int.reduceAdd, Int.reduceSub, Int.reduceMul, Nat.reduceMul, Nat.reduceSub, Nat.reduceLeDiff] <;> rfl), (by simp only [go_sem, eRun_exit, Nat.reduceAdd, Nat.reduceLT, Nat.reduceEqDiff, reduceIte, reduceCtorEq, Int.reduceBEq, Int.reduceBNe, Int.reduceLT, Int.reduceLE, Int.reduceGT, Int.reduceGE, Int.reduceEq, Int.reduceAdd, Int.reduceSub, Int.reduceMul, Nat.reduceMul, Nat.reduceSub, Nat.reduceLeDiff] <;> rfl), (by simp only [go_sem, eRun_exit, Nat.reduceAdd, Nat.reduceLT, Nat.reduceEqDiff, reduceIte, reduceCtorEq, Int.reduceBEq, Int.reduceBNe, Int.reduceLT, Int.reduceLE, Int.reduceGT, Int.reduceGE, Int.reduceEq, Int.reduceAdd, Int.reduceSub, Int.reduceMul, Nat.reduceMul, Nat.reduceSub, Nat.reduceLeDiff] <;> rfl), (by simp only [go_sem, eRun_exit, Nat.reduceAdd, Nat.reduceLT, Nat.reduceEqDiff, reduceIte, reduceCtorEq, Int.reduceBEq, Int.reduceBNe, Int.reduceLT, Int.reduceLE, Int.reduceGT, Int.reduceGE, Int.reduceEq, Int.reduceAdd, Int.reduceSub, Int.reduceMul, Nat.reduceMul, Nat.reduceSub, Nat.reduceLeDiff] <;> rfl), (by simp only [go_sem, eRun_exit, Nat.reduceAdd, Nat.reduceLT, Nat.reduceEqDiff, reduceIte, reduceCtorEq, Int.reduceBEq, Int.reduceBNe, Int.reduceLT, Int.reduceLE, Int.reduceGT, Int.reduceGE, Int.reduceEq, Int.reduceAdd, Int.reduceSub, Int.reduceMul, Nat.reduceMul, Nat.reduceSub, Nat.reduceLeDiff] <;> rfl), by omega, rfl, rfl, rfl⟩
  · rintro q f w' ⟨i, f0, f1, f2, f3, f4, f13, hi, rfl, hag, rfl⟩ ih exit
    by_cases hlt : i < L.length
    case neg =>
      rw [List.drop_eq_nil_of_le (by omega)] at hag
      refine WS_runB 1000 (by simp only [go_sem, Nat.reduceAdd, Nat.reduceLT, Nat.reduceEqDiff, reduceIte, reduceCtorEq, Int.reduceBEq, Int.reduceBNe, Int.reduceLT, Int.reduceLE, Int.reduceGT, Int.reduceGE, Int.reduceEq, Int.reduceAdd, Int.reduceSub, Int.reduceMul, Nat.reduceMul, Nat.reduceSub, Nat.reduceLeDiff, k_ref8_pred_p2, f0, f13, hlv, hlt]; rfl) ?_
      exact exit _ _ _ ⟨(by simp only [go_sem, eRun_exit, Nat.reduceAdd, Nat.reduceLT, Nat.reduceEqDiff, reduceIte, reduceCtorEq, Int.reduceBEq, Int.reduceBNe, Int.reduceLT, Int.reduceLE, Int.reduceGT, Int.reduceGE, Int.reduceEq, Int.reduceAdd, Int.reduceSub, Int.reduceMul, Nat.reduceMul, Nat.reduceSub, Nat.reduceLeDiff, f0] <;> rfl), (by simp only [go_sem, eRun_exit, Nat.reduceAdd, Nat.reduceLT, Nat.reduceEqDiff, reduceIte, reduceCtorEq, Int.reduceBEq, Int.reduceBNe, Int.reduceLT, Int.reduceLE, Int.reduceGT, Int.reduceGE, Int.reduceEq, Int.reduceAdd, Int.reduceSub, Int.reduceMul, Nat.reduceMul, Nat.reduceSub, Nat.reduceLeDiff, f1] <;> rfl), (by simp only [go_sem, eRun_exit, Nat.reduceAdd, Nat.reduceLT, Nat.reduceEqDiff, reduceIte, reduceCtorEq, Int.reduceBEq, Int.reduceBNe, Int.reduceLT, Int.reduceLE, Int.reduceGT, Int.reduceGE, Int.reduceEq, Int.reduceAdd, Int.reduceSub, Int.reduceMul, Nat.reduceMul, Nat.reduceSub, Nat.reduceLeDiff, f2] <;> rfl), (by simp only [go_sem, eRun_exit, Nat.reduceAdd, Nat.reduceLT, Nat.reduceEqDiff, reduceIte, reduceCtorEq, Int.reduceBEq, Int.reduceBNe, Int.reduceLT, Int.reduceLE, Int.reduceGT, Int.reduceGE, Int.reduceEq, Int.reduceAdd, Int.reduceSub, Int.reduceMul, Nat.reduceMul, Nat.reduceSub, Nat.reduceLeDiff, f3] <;> rfl), (by simp only [go_sem, eRun_exit, Nat.reduceAdd, Nat.reduceLT, Nat.reduceEqDiff, reduceIte, reduceCtorEq, Int.reduceBEq, Int.reduceBNe, Int.reduceLT, Int.reduceLE, Int.reduceGT, Int.reduceGE, Int.reduceEq, Int.reduceAdd, Int.reduceSub, Int.reduceMul, Nat.reduceMul, Nat.reduceSub, Nat.reduceLeDiff, f4] <;> rfl), hag, rfl⟩ rfl
    obtain ⟨p, hp⟩ : ∃ p, L[i]? = some p := ⟨_, List.getElem?_eq_getElem hlt⟩
    rw [drop_cons_of hp] at hag
    have hwr : IntKind.wrap .i64 (Int.ofNat i + 1) = Int.ofNat (i + 1) := wrap_succ (by omega)
    rcases hA.a.rd.inv with ⟨_, q2, _⟩ | ⟨b, o, c, rfl, hB⟩
    · omega
    rcases hA.b.rd.inv with ⟨_, q2, _⟩ | ⟨b2, o2, c2, rfl, hB2⟩
    · omega
    have a1 : w'.load b (o + i * 1) 1 = some [.str p.1] := hB.cell (by omega) (by simp only [nmsC, List.getElem?_map, Nat.mul_one, hp, Option.map_some])
    have b1 : w'.load b2 (o2 + i * 1) 1 = some [.int .i64 p.2] := hB2.cell (by omega) (by simp only [wdtC, List.getElem?_map, Nat.mul_one, hp, Option.map_some])
    by_cases hn : p.1 = nm
    · have hg : aget L nm = some p.2 := by rw [hag]; simp [aget, hn]
      have e : rSee (L, ok) (nm, (n : Int)) = (L, ok && decide (p.2 = (n : Int))) := by simp only [rSee, hg]
      rw [e] at h
      have en : eqL p.1 nm = true := eqL_iff.2 hn
      cases ok with
      | true =>
        have eb : (p.2 == (n : Int)) = decide (p.2 = (n : Int)) := by
          by_cases hk : p.2 = (n : Int)
          · rw [decide_eq_true hk, hk]; simp
          · rw [decide_eq_false hk]; simpa using hk
        refine WS_run 1000 (by simp only [go_sem, eRun_exit, Nat.reduceAdd, Nat.reduceLT, Nat.reduceEqDiff, reduceIte, reduceCtorEq, Int.reduceBEq, Int.reduceBNe, Int.reduceLT, Int.reduceLE, Int.reduceGT, Int.reduceGE, Int.reduceEq, Int.reduceAdd, Int.reduceSub, Int.reduceMul, Nat.reduceMul, Nat.reduceSub, Nat.reduceLeDiff, k_ref8_pred_p2, k_ref8_pred_p1, k_ref8_pred_p0, f0, f1, f2, f3, f4, f13, hlv, hlt, a1, b1, strS, en, eb]; rfl) ?_
        refine WS_ret ⟨_, by simp only [go_sem, eRun_exit, Nat.reduceAdd, Nat.reduceLT, Nat.reduceEqDiff, reduceIte, reduceCtorEq, Int.reduceBEq, Int.reduceBNe, Int.reduceLT, Int.reduceLE, Int.reduceGT, Int.reduceGE, Int.reduceEq, Int.reduceAdd, Int.reduceSub, Int.reduceMul, Nat.reduceMul, Nat.reduceSub, Nat.reduceLeDiff, k_ref8_pred]; rfl, ?_⟩
        rw [Bool.true_and] at h
        exact h w' _ _ S1 S2 hA (Frm.refl _) fun x hx => .inl hx
      | false =>
        refine WS_run 1000 (by simp only [go_sem, eRun_exit, Nat.reduceAdd, Nat.reduceLT, Nat.reduceEqDiff, reduceIte, reduceCtorEq, Int.reduceBEq, Int.reduceBNe, Int.reduceLT, Int.reduceLE, Int.reduceGT, Int.reduceGE, Int.reduceEq, Int.reduceAdd, Int.reduceSub, Int.reduceMul, Nat.reduceMul, Nat.reduceSub, Nat.reduceLeDiff, k_ref8_pred_p2, k_ref8_pred_p1, k_ref8_pred_p0, f0, f1, f2, f3, f4, f13, hlv, hlt, a1, strS, en]; rfl) ?_
        refine WS_ret ⟨_, by simp only [go_sem, eRun_exit, Nat.reduceAdd, Nat.reduceLT, Nat.reduceEqDiff, reduceIte, reduceCtorEq, Int.reduceBEq, Int.reduceBNe, Int.reduceLT, Int.reduceLE, Int.reduceGT, Int.reduceGE, Int.reduceEq, Int.reduceAdd, Int.reduceSub, Int.reduceMul, Nat.reduceMul, Nat.reduceSub, Nat.reduceLeDiff, k_ref8_pred]; rfl, ?_⟩
        rw [Bool.false_and] at h
        exact h w' _ _ S1 S2 hA (Frm.refl _) fun x hx => .inl hx
    · have en : eqL p.1 nm = false := by rw [eqL_dec]; exact decide_eq_false hn
      have hag2 : aget L nm = aget (L.drop (i + 1)) nm := by rw [hag]; simp only [aget, if_neg (Ne.symm hn)]
      refine WS_run 1000 (by simp only [go_sem, eRun_exit, Nat.reduceAdd, Nat.reduceLT, Nat.reduceEqDiff, reduceIte, reduceCtorEq, Int.reduceBEq, Int.reduceBNe, Int.reduceLT, Int.reduceLE, Int.reduceGT, Int.reduceGE, Int.reduceEq, Int.reduceAdd, Int.reduceSub, Int.reduceMul, Nat.reduceMul, Nat.reduceSub, Nat.reduceLeDiff, k_ref8_pred_p2, k_ref8_pred_p1, f0, f1, f2, f3, f4, f13, hlv, hlt, a1, strS, en, hwr]; rfl) ?_
      exact ih _ _ _ (by omega) ⟨i + 1, (by simp only [go_sem, eRun_exit, Nat.reduceAdd, Nat.reduceLT, Nat.reduceEqDiff, reduceIte, reduceCtorEq, Int.reduceBEq, Int.reduceBNe, Int.reduceLT, Int.reduceLE, Int.reduceGT, Int.reduceGE, Int.reduceEq, Int.reduceAdd, Int.reduceSub, Int.reduceMul, Nat.reduceMul, Nat.reduceSub, Nat.reduceLeDiff, f0] <;> rfl), (by simp only [go_sem, eRun_exit, Nat.reduceAdd, Nat.reduceLT, Nat.reduceEqDiff, reduceIte, reduceCtorEq, Int.reduceBEq, Int.reduceBNe, Int.reduceLT, Int.reduceLE, Int.reduceGT, Int.reduceGE, Int.reduceEq, Int.reduceAdd, Int.reduceSub, Int.reduceMul, Nat.reduceMul, Nat.reduceSub, Nat.reduceLeDiff, f1] <;> rfl), (by simp only [go_sem, eRun_exit, Nat.reduceAdd, Nat.reduceLT, Nat.reduceEqDiff, reduceIte, reduceCtorEq, Int.reduceBEq, Int.reduceBNe, Int.reduceLT, Int.reduceLE, Int.reduceGT, Int.reduceGE, Int.reduceEq, Int.reduceAdd, Int.reduceSub, Int.reduceMul, Nat.reduceMul, Nat.reduceSub, Nat.reduceLeDiff, f2] <;> rfl), (by simp only [go_sem, eRun_exit, Nat.reduceAdd, Nat.reduceLT, Nat.reduceEqDiff, reduceIte, reduceCtorEq, Int.reduceBEq, Int.reduceBNe, Int.reduceLT, Int.reduceLE, Int.reduceGT, Int.reduceGE, Int.reduceEq, Int.reduceAdd, Int.reduceSub, Int.reduceMul, Nat.reduceMul, Nat.reduceSub, Nat.reduceLeDiff, f3] <;> rfl), (by simp only [go_sem, eRun_exit, Nat.reduceAdd, Nat.reduceLT, Nat.reduceEqDiff, reduceIte, reduceCtorEq, Int.reduceBEq, Int.reduceBNe, Int.reduceLT, Int.reduceLE, Int.reduceGT, Int.reduceGE, Int.reduceEq, Int.reduceAdd, Int.reduceSub, Int.reduceMul, Nat.reduceMul, Nat.reduceSub, Nat.reduceLeDiff, f4] <;> rfl), (by simp only [go_sem, eRun_exit, Nat.reduceAdd, Nat.reduceLT, Nat.reduceEqDiff, reduceIte, reduceCtorEq, Int.reduceBEq, Int.reduceBNe, Int.reduceLT, Int.reduceLE, Int.reduceGT, Int.reduceGE, Int.reduceEq, Int.reduceAdd, Int.reduceSub, Int.reduceMul, Nat.reduceMul, Nat.reduceSub, Nat.reduceLeDiff] <;> rfl), by omega, rfl, hag2, rfl⟩
  · rintro f w' ⟨f0, f1, f2, f3, f4, hg, rfl⟩
    have e : rSee (L, ok) (nm, (n : Int)) = (L ++ [(nm, (n : Int))], ok) := by simp only [rSee, hg]
    rw [e] at h
    obtain ⟨v1, w2, T1, u1, u2, u3, u4⟩ := hA.a.push (news := [V.str nm]) (bytes := 16) (fun b hb => (hA.s1 b hb).2.1) (by omega) rfl rfl (by omega) (by omega)
    have b2 := hA.b.frm u3 fun x hx h1 => (hA.s1 x h1).2.2 hx
    have n2 := u3.next
    obtain ⟨v2, w3, T2, t1, t2, t3, t4⟩ := b2.push (news := [V.int .i64 (n : Int)]) (bytes := 8) (fun b hb => by have := (hA.s2 b hb).2; omega) (by omega) rfl rfl (by omega) (by omega)
    have x1 := elems_fresh (w := w') (esz := 1) (n := 1) (cs := [V.str nm]) (c := .known 1) (by omega) rfl
    have x2 := elems_fresh (w := w2) (esz := 1) (n := 1) (cs := [V.int .i64 (n : Int)]) (c := .known 1) (by omega) rfl
    have hov : over [V.str []] 0 [V.str nm] = some [V.str nm] := rfl
    have hov2 : over [V.int .i64 0] 0 [V.int .i64 (n : Int)] = some [V.int .i64 (n : Int)] := rfl
    have n3 := t3.next
    have s1' : ∀ x, T1 x → aw.next ≤ x ∧ x < w3.next ∧ ¬ S2 x := by
      intro x hx
      obtain ⟨m1, m2⟩ := u4 x hx
      have := hA.frm.next
      rcases m2 with m2 | m2
      · have := hA.s1 x m2; exact ⟨this.1, by omega, this.2.2⟩
      · exact ⟨by omega, by omega, fun h => by have := (hA.s2 x h).2; omega⟩
    refine WS_run 1000 (by simp only [go_sem, eRun_exit, Nat.reduceAdd, Nat.reduceLT, Nat.reduceEqDiff, reduceIte, reduceCtorEq, Int.reduceBEq, Int.reduceBNe, Int.reduceLT, Int.reduceLE, Int.reduceGT, Int.reduceGE, Int.reduceEq, Int.reduceAdd, Int.reduceSub, Int.reduceMul, Nat.reduceMul, Nat.reduceSub, Nat.reduceLeDiff, k_ref8_pred_p3, f0, f1, f2, f3, f4, evParts, fillV, hov, hov2, x1, x2, u1, t1, List.length_cons, List.length_nil]; rfl) ?_
    refine WS_ret ⟨_, by simp only [go_sem, eRun_exit, Nat.reduceAdd, Nat.reduceLT, Nat.reduceEqDiff, reduceIte, reduceCtorEq, Int.reduceBEq, Int.reduceBNe, Int.reduceLT, Int.reduceLE, Int.reduceGT, Int.reduceGE, Int.reduceEq, Int.reduceAdd, Int.reduceSub, Int.reduceMul, Nat.reduceMul, Nat.reduceSub, Nat.reduceLeDiff, k_ref8_pred]; rfl, ?_⟩
    refine h w3 v1 v2 T1 T2 ⟨?_, ?_, fun x hx => ?_, fun x hx => ?_, ?_⟩ ?_ ?_
    · rw [List.length_append, List.length_singleton]
      have : nmsC (L ++ [(nm, (n : Int))]) = nmsC L ++ [V.str nm] := by simp [nmsC]
      rw [this]; exact u2.frm t3 fun x hx h2 => (s1' x hx).2.2 h2
    · rw [List.length_append, List.length_singleton]
      have : wdtC (L ++ [(nm, (n : Int))]) = wdtC L ++ [V.int .i64 (n : Int)] := by simp [wdtC]
      rw [this]; exact t2
    · refine ⟨(s1' x hx).1, (s1' x hx).2.1, fun h => ?_⟩
      obtain ⟨m1, m2⟩ := t4 x h
      rcases m2 with m2 | m2
      · exact (s1' x hx).2.2 m2
      · have := (u4 x hx).1; omega
    · obtain ⟨m1, m2⟩ := t4 x hx
      have := hA.frm.next
      rcases m2 with m2 | m2
      · exact ⟨(hA.s2 x m2).1, m1⟩
      · exact ⟨by omega, m1⟩
    · refine (hA.frm.trans u3 (fun _ _ h => h) fun x hx h => by have := (hA.s1 x h).1; omega).trans t3 (fun _ _ h => h) fun x hx h => by have := (hA.s2 x h).1; omega
    · exact u3.trans t3 (fun _ _ h => .inl h) fun _ _ h => .inr h
    · rintro x (hx | hx)
      · exact (u4 x hx).2.imp .inl id
      · rcases (t4 x hx).2 with h | h
        · exact .inl (.inr h)
        · exact .inr (by omega)
end Go.Proofs.Ytjidefnbancmfaa

/- The reference's Preds, whole; Defined. -/
set_option linter.unusedVariables false
set_option maxRecDepth 10000
set_option linter.unusedSimpArgs false
namespace Go.Proofs.Ytjidefnbancmfaa
open Go.AE Delphi
variable {tab : Tab}
/-- the first k literals of a rule, its head first. -/
def upto (r : Rl) : Nat → Ps
  | 0 => []
  | k + 1 => (r.head.name, (r.head.args.length : Int)) :: (r.body.take k).flatMap litP
theorem upto_all (r : Rl) : upto r (rAll r).length = ruleP r := by simp [upto, rAll, ruleP]
theorem upto_zero {r : Rl} {x : Lt} (hx : (rAll r)[0]? = some x) : upto r 1 = upto r 0 ++ [(x.name, (x.args.length : Int))] := by
  simp [rAll] at hx; subst hx; simp [upto]
theorem upto_succ {r : Rl} {k : Nat} {x : Lt} (hx : (rAll r)[k + 1]? = some x) : upto r (k + 1 + 1) = upto r (k + 1) ++ litP x := by
  have hx' : r.body[k]? = some x := by simpa [rAll] using hx
  have ht : r.body.take (k + 1) = r.body.take k ++ [x] := by rw [List.take_add_one, hx']; rfl
  simp only [upto, ht, List.flatMap_append, List.cons_append]
  simp
structure PF (f : Fr) (rv fv nv wv : V) (ok : Bool) : Prop where
  f0 : f.get 0 = some rv
  f1 : f.get 1 = some fv
  f7 : f.get 7 = some nv
  f8 : f.get 8 = some wv
  f9 : f.get 9 = some (.bool ok)
/-- a rule's literals in a slice of one's own. -/
structure LV (T : Nat → Prop) (aw w : AW) (lv : V) (r : Rl) (S1 S2 Tl : Nat → Prop) : Prop where
  rd : ∃ xss, Rd Tl w lv 3 (rAll r).length xss.flatten ∧ All2 (LtC T aw) (rAll r) xss
  sep : ∀ x, Tl x → x < w.next ∧ ¬ S1 x ∧ ¬ S2 x
theorem LV.at {T : Nat → Prop} {aw w : AW} {lv : V} {r : Rl} {S1 S2 Tl : Nat → Prop} (h : LV T aw w lv r S1 S2 Tl) {i : Nat} {x : Lt} (hx : (rAll r)[i]? = some x) : ∃ b o c u, lv = .slice b o (rAll r).length c ∧ w.load b (o + i * 3) 1 = some [.int .i64 (Int.ofNat x.kind)] ∧ w.load b (o + i * 3 + 1) 1 = some [.str x.name] ∧ w.load b (o + i * 3 + 2) 1 = some [u] ∧ lenV u = some x.args.length := by
  obtain ⟨xss, h1, h2⟩ := h.rd
  have hlt : i < (rAll r).length := (List.getElem?_eq_some_iff.1 hx).1
  have h3 : RdL (fun _ => LtC T aw) Tl w lv 3 (rAll r) := ⟨xss, h1, h2⟩
  rcases h3.inv (fun a xs hx => (LtC.one hx).1) with ⟨_, q2⟩ | ⟨b, o, c, rfl, _, _, _, hat⟩
  · rw [q2] at hlt; simp at hlt
  · obtain ⟨xs, ⟨u, rfl, hu⟩, hp⟩ := hat i x hx
    exact ⟨b, o, c, u, rfl, hp 0 1 (by omega), hp 1 1 (by omega), hp 2 1 (by omega), hu.lenV⟩
def PkI (T : Nat → Prop) (aw : AW) (rv fv lv : V) (i : Nat) (r : Rl) (s : Ps × Bool) (q : Nat) (f : Fr) (w : AW) : Prop :=
  ∃ k nv wv S1 S2 Tl, PF f rv fv nv wv (rsees s (upto r k)).2 ∧ f.get 10 = some (.int .i64 (Int.ofNat i)) ∧ f.get 11 = some lv ∧ f.get 12 = some (.int .i64 (Int.ofNat k)) ∧ k ≤ (rAll r).length ∧ q = (rAll r).length - k ∧ NW aw w nv wv (rsees s (upto r k)).1 S1 S2 ∧ LV T aw w lv r S1 S2 Tl
def PkJ (aw : AW) (rv fv : V) (i : Nat) (r : Rl) (s : Ps × Bool) (f : Fr) (w : AW) : Prop :=
  ∃ nv wv S1 S2, PF f rv fv nv wv (rsees s (ruleP r)).2 ∧ f.get 10 = some (.int .i64 (Int.ofNat i)) ∧ NW aw w nv wv (rsees s (ruleP r)).1 S1 S2
theorem pk_step (C : Codes tab) {T : Nat → Prop} {aw w : AW} {rv fv lv : V} {i : Nat} {r : Rl} {s : Ps × Bool} {q : Nat} {f : Fr} {st : List SI} {Q : Fr → AW → Prop} (hbd : RBd r) (hs : s.1.length ≤ 5000000)
    (hI : PkI T aw rv fv lv i r s q f w) (ih : ∀ n' f' w', n' < q → PkI T aw rv fv lv i r s n' f' w' → WS tab (.code (.loop k_ref8_Preds_p2) :: .endB 2 :: st) f' w' Q)
    (out : ∀ s' f' w', PkJ aw rv fv i r s f' w' → popTo 2 s' = some st → WS tab (.code (.exit 2) :: s') f' w' Q) : WS tab (.code k_ref8_Preds_p2 :: .code (.loop k_ref8_Preds_p2) :: .endB 2 :: st) f w Q := by
  obtain ⟨k, nv, wv, S1, S2, Tl, ⟨f0, f1, f7, f8, f9⟩, f10, f11, f12, hk, rfl, hA, hL⟩ := hI
  have hlv : lenV lv = some (rAll r).length := by obtain ⟨xss, h1, _⟩ := hL.rd; exact h1.lenV
  by_cases hlt : k < (rAll r).length
  case neg =>
    have : k = (rAll r).length := by omega
    subst this
    rw [upto_all] at hA f9
    refine WS_runB 1000 (by simp only [go_sem, Nat.reduceAdd, Nat.reduceLT, Nat.reduceEqDiff, reduceIte, reduceCtorEq, Int.reduceBEq, Int.reduceBNe, Int.reduceLT, Int.reduceLE, Int.reduceGT, Int.reduceGE, Int.reduceEq, Int.reduceAdd, Int.reduceSub, Int.reduceMul, Nat.reduceMul, Nat.reduceSub, Nat.reduceLeDiff, k_ref8_Preds_p2, f11, f12, hlv, hlt]; rfl) ?_
    exact out _ _ _ ⟨nv, wv, S1, S2, ⟨(by simp only [go_sem, eRun_exit, Nat.reduceAdd, Nat.reduceLT, Nat.reduceEqDiff, reduceIte, reduceCtorEq, Int.reduceBEq, Int.reduceBNe, Int.reduceLT, Int.reduceLE, Int.reduceGT, Int.reduceGE, Int.reduceEq, Int.reduceAdd, Int.reduceSub, Int.reduceMul, Nat.reduceMul, Nat.reduceSub, Nat.reduceLeDiff, f0] <;> rfl), (by simp only [go_sem, eRun_exit, Nat.reduceAdd, Nat.reduceLT, Nat.reduceEqDiff, reduceIte, reduceCtorEq, Int.reduceBEq, Int.reduceBNe, Int.reduceLT, Int.reduceLE, Int.reduceGT, Int.reduceGE, Int.reduceEq, Int.reduceAdd, Int.reduceSub, Int.reduceMul, Nat.reduceMul, Nat.reduceSub, Nat.reduceLeDiff, f1] <;> rfl), (by simp only [go_sem, eRun_exit, Nat.reduceAdd, Nat.reduceLT, Nat.reduceEqDiff, reduceIte, reduceCtorEq, Int.reduceBEq, Int.reduceBNe, Int.reduceLT, Int.reduceLE, Int.reduceGT, Int.reduceGE, Int.reduceEq, Int.reduceAdd, Int.reduceSub, Int.reduceMul, Nat.reduceMul, Nat.reduceSub, Nat.reduceLeDiff, f7] <;> rfl), (by simp only [go_sem, eRun_exit, Nat.reduceAdd, Nat.reduceLT, Nat.reduceEqDiff, reduceIte, reduceCtorEq, Int.reduceBEq, Int.reduceBNe, Int.reduceLT, Int.reduceLE, Int.reduceGT, Int.reduceGE, Int.reduceEq, Int.reduceAdd, Int.reduceSub, Int.reduceMul, Nat.reduceMul, Nat.reduceSub, Nat.reduceLeDiff, f8] <;> rfl), (by simp only [go_sem, eRun_exit, Nat.reduceAdd, Nat.reduceLT, Nat.reduceEqDiff, reduceIte, reduceCtorEq, Int.reduceBEq, Int.reduceBNe, Int.reduceLT, Int.reduceLE, Int.reduceGT, Int.reduceGE, Int.reduceEq, Int.reduceAdd, Int.reduceSub, Int.reduceMul, Nat.reduceMul, Nat.reduceSub, Nat.reduceLeDiff, f9] <;> rfl)⟩, (by simp only [go_sem, eRun_exit, Nat.reduceAdd, Nat.reduceLT, Nat.reduceEqDiff, reduceIte, reduceCtorEq, Int.reduceBEq, Int.reduceBNe, Int.reduceLT, Int.reduceLE, Int.reduceGT, Int.reduceGE, Int.reduceEq, Int.reduceAdd, Int.reduceSub, Int.reduceMul, Nat.reduceMul, Nat.reduceSub, Nat.reduceLeDiff, f10] <;> rfl), hA⟩ rfl
  obtain ⟨x, hx⟩ : ∃ t, (rAll r)[k]? = some t := ⟨_, List.getElem?_eq_getElem hlt⟩
  have hal : (rAll r).length ≤ 1001 := by have := hbd.body; simp [rAll]; omega
  have hwr : IntKind.wrap .i64 (Int.ofNat k + 1) = Int.ofNat (k + 1) := wrap_succ (by omega)
  obtain ⟨b, o, c, u, rfl, a0, a1, a2, hul⟩ := hL.at hx
  have hll : (rsees s (upto r k)).1.length ≤ 10000000 := by
    have h1 := rsees_len (upto r k) s
    have h2 : (upto r k).length ≤ 1002 := by
      cases k with
      | zero => simp [upto]
      | succ k =>
        have := flat_le litP litP_len (r.body.take k)
        simp only [upto, List.length_cons]
        have : (r.body.take k).length ≤ 1000 := by rw [List.length_take]; have := hbd.body; omega
        omega
    omega
  -- one that counts
  have one : ∀ {w' : AW} {nv' wv' : V} {S1' S2' : Nat → Prop}, upto r (k + 1) = upto r k ++ [(x.name, (x.args.length : Int))] → NW aw w' nv' wv' (rSee (rsees s (upto r k)) (x.name, (x.args.length : Int))).1 S1' S2' → Frm (fun x => S1 x ∨ S2 x) w w' → (∀ x, S1' x ∨ S2' x → (S1 x ∨ S2 x) ∨ w.next ≤ x) →
      (rsees s (upto r (k + 1))).2 = (rSee (rsees s (upto r k)) (x.name, (x.args.length : Int))).2 ∧ NW aw w' nv' wv' (rsees s (upto r (k + 1))).1 S1' S2' ∧ LV T aw w' (.slice b o (rAll r).length c) r S1' S2' Tl := by
    intro w' nv' wv' S1' S2' he h1 h2 h3
    have e : rsees s (upto r (k + 1)) = rSee (rsees s (upto r k)) (x.name, (x.args.length : Int)) := by rw [he, rsees_app]; rfl
    rw [e]
    refine ⟨rfl, h1, ?_, fun y hy => ?_⟩
    · obtain ⟨xss, g1, g2⟩ := hL.rd
      exact ⟨xss, g1.frm h2 fun y hy hs => hs.elim (hL.sep y hy).2.1 (hL.sep y hy).2.2, g2⟩
    · obtain ⟨g1, g2, g3⟩ := hL.sep y hy
      have := h2.next
      refine ⟨by omega, fun h => ?_, fun h => ?_⟩
      · rcases h3 y (.inl h) with (h | h) | h
        · exact g2 h
        · exact g3 h
        · omega
      · rcases h3 y (.inr h) with (h | h) | h
        · exact g2 h
        · exact g3 h
        · omega
  cases k with
  | zero =>
    have he := upto_zero hx
    refine WS_run 1000 (by simp only [go_sem, eRun_exit, Nat.reduceAdd, Nat.reduceLT, Nat.reduceEqDiff, reduceIte, reduceCtorEq, Int.reduceBEq, Int.reduceBNe, Int.reduceLT, Int.reduceLE, Int.reduceGT, Int.reduceGE, Int.reduceEq, Int.reduceAdd, Int.reduceSub, Int.reduceMul, Nat.reduceMul, Nat.reduceSub, Nat.reduceLeDiff, k_ref8_Preds_p2, k_ref8_Preds_p1, k_ref8_Preds_p0, f7, f8, f9, f11, f12, hlv, hlt, a1, a2, hul]; rfl) ?_
    refine WS_call (by simp only [go_sem, eRun_exit, Nat.reduceAdd, Nat.reduceLT, Nat.reduceEqDiff, reduceIte, reduceCtorEq, Int.reduceBEq, Int.reduceBNe, Int.reduceLT, Int.reduceLE, Int.reduceGT, Int.reduceGE, Int.reduceEq, Int.reduceAdd, Int.reduceSub, Int.reduceMul, Nat.reduceMul, Nat.reduceSub, Nat.reduceLeDiff]) (by simp only [go_sem, eRun_exit, Nat.reduceAdd, Nat.reduceLT, Nat.reduceEqDiff, reduceIte, reduceCtorEq, Int.reduceBEq, Int.reduceBNe, Int.reduceLT, Int.reduceLE, Int.reduceGT, Int.reduceGE, Int.reduceEq, Int.reduceAdd, Int.reduceSub, Int.reduceMul, Nat.reduceMul, Nat.reduceSub, Nat.reduceLeDiff]; rfl) ?_
    refine pred_ok C hA hll fun w' nv' wv' S1' S2' v1 v2 v3 => ?_
    obtain ⟨g1, g2, g3⟩ := one he v1 v2 v3
    refine WS_run 1000 (by simp only [go_sem, eRun_exit, Nat.reduceAdd, Nat.reduceLT, Nat.reduceEqDiff, reduceIte, reduceCtorEq, Int.reduceBEq, Int.reduceBNe, Int.reduceLT, Int.reduceLE, Int.reduceGT, Int.reduceGE, Int.reduceEq, Int.reduceAdd, Int.reduceSub, Int.reduceMul, Nat.reduceMul, Nat.reduceSub, Nat.reduceLeDiff, f12, hwr]; rfl) ?_
    exact ih _ _ _ (by omega) ⟨0 + 1, nv', wv', S1', S2', Tl, ⟨(by simp only [go_sem, eRun_exit, Nat.reduceAdd, Nat.reduceLT, Nat.reduceEqDiff, reduceIte, reduceCtorEq, Int.reduceBEq, Int.reduceBNe, Int.reduceLT, Int.reduceLE, Int.reduceGT, Int.reduceGE, Int.reduceEq, Int.reduceAdd, Int.reduceSub, Int.reduceMul, Nat.reduceMul, Nat.reduceSub, Nat.reduceLeDiff, f0] <;> rfl), (by simp only [go_sem, eRun_exit, Nat.reduceAdd, Nat.reduceLT, Nat.reduceEqDiff, reduceIte, reduceCtorEq, Int.reduceBEq, Int.reduceBNe, Int.reduceLT, Int.reduceLE, Int.reduceGT, Int.reduceGE, Int.reduceEq, Int.reduceAdd, Int.reduceSub, Int.reduceMul, Nat.reduceMul, Nat.reduceSub, Nat.reduceLeDiff, f1] <;> rfl), (by simp only [go_sem, eRun_exit, Nat.reduceAdd, Nat.reduceLT, Nat.reduceEqDiff, reduceIte, reduceCtorEq, Int.reduceBEq, Int.reduceBNe, Int.reduceLT, Int.reduceLE, Int.reduceGT, Int.reduceGE, Int.reduceEq, Int.reduceAdd, Int.reduceSub, Int.reduceMul, Nat.reduceMul, Nat.reduceSub, Nat.reduceLeDiff] <;> rfl), (by simp only [go_sem, eRun_exit, Nat.reduceAdd, Nat.reduceLT, Nat.reduceEqDiff, reduceIte, reduceCtorEq, Int.reduceBEq, Int.reduceBNe, Int.reduceLT, Int.reduceLE, Int.reduceGT, Int.reduceGE, Int.reduceEq, Int.reduceAdd, Int.reduceSub, Int.reduceMul, Nat.reduceMul, Nat.reduceSub, Nat.reduceLeDiff] <;> rfl), by rw [g1]; exact (by simp only [go_sem, eRun_exit, Nat.reduceAdd, Nat.reduceLT, Nat.reduceEqDiff, reduceIte, reduceCtorEq, Int.reduceBEq, Int.reduceBNe, Int.reduceLT, Int.reduceLE, Int.reduceGT, Int.reduceGE, Int.reduceEq, Int.reduceAdd, Int.reduceSub, Int.reduceMul, Nat.reduceMul, Nat.reduceSub, Nat.reduceLeDiff] <;> rfl)⟩, (by simp only [go_sem, eRun_exit, Nat.reduceAdd, Nat.reduceLT, Nat.reduceEqDiff, reduceIte, reduceCtorEq, Int.reduceBEq, Int.reduceBNe, Int.reduceLT, Int.reduceLE, Int.reduceGT, Int.reduceGE, Int.reduceEq, Int.reduceAdd, Int.reduceSub, Int.reduceMul, Nat.reduceMul, Nat.reduceSub, Nat.reduceLeDiff, f10] <;> rfl), (by simp only [go_sem, eRun_exit, Nat.reduceAdd, Nat.reduceLT, Nat.reduceEqDiff, reduceIte, reduceCtorEq, Int.reduceBEq, Int.reduceBNe, Int.reduceLT, Int.reduceLE, Int.reduceGT, Int.reduceGE, Int.reduceEq, Int.reduceAdd, Int.reduceSub, Int.reduceMul, Nat.reduceMul, Nat.reduceSub, Nat.reduceLeDiff, f11] <;> rfl), (by simp only [go_sem, eRun_exit, Nat.reduceAdd, Nat.reduceLT, Nat.reduceEqDiff, reduceIte, reduceCtorEq, Int.reduceBEq, Int.reduceBNe, Int.reduceLT, Int.reduceLE, Int.reduceGT, Int.reduceGE, Int.reduceEq, Int.reduceAdd, Int.reduceSub, Int.reduceMul, Nat.reduceMul, Nat.reduceSub, Nat.reduceLeDiff] <;> rfl), by omega, rfl, g2, g3⟩
  | succ k =>
    have hpos : 0 < k + 1 := by omega
    have hs1 := upto_succ hx
    by_cases hk1 : x.kind = 1
    · have he : upto r (k + 1 + 1) = upto r (k + 1) ++ [(x.name, (x.args.length : Int))] := by rw [hs1]; simp [litP, hk1]
      rw [hk1] at a0
      refine WS_run 1000 (by simp only [go_sem, eRun_exit, Nat.reduceAdd, Nat.reduceLT, Nat.reduceEqDiff, reduceIte, reduceCtorEq, Int.reduceBEq, Int.reduceBNe, Int.reduceLT, Int.reduceLE, Int.reduceGT, Int.reduceGE, Int.reduceEq, Int.reduceAdd, Int.reduceSub, Int.reduceMul, Nat.reduceMul, Nat.reduceSub, Nat.reduceLeDiff, k_ref8_Preds_p2, k_ref8_Preds_p1, k_ref8_Preds_p0, f7, f8, f9, f11, f12, hlv, hlt, hpos, a0, a1, a2, hul]; rfl) ?_
      refine WS_call (by simp only [go_sem, eRun_exit, Nat.reduceAdd, Nat.reduceLT, Nat.reduceEqDiff, reduceIte, reduceCtorEq, Int.reduceBEq, Int.reduceBNe, Int.reduceLT, Int.reduceLE, Int.reduceGT, Int.reduceGE, Int.reduceEq, Int.reduceAdd, Int.reduceSub, Int.reduceMul, Nat.reduceMul, Nat.reduceSub, Nat.reduceLeDiff]) (by simp only [go_sem, eRun_exit, Nat.reduceAdd, Nat.reduceLT, Nat.reduceEqDiff, reduceIte, reduceCtorEq, Int.reduceBEq, Int.reduceBNe, Int.reduceLT, Int.reduceLE, Int.reduceGT, Int.reduceGE, Int.reduceEq, Int.reduceAdd, Int.reduceSub, Int.reduceMul, Nat.reduceMul, Nat.reduceSub, Nat.reduceLeDiff]; rfl) ?_
      refine pred_ok C hA hll fun w' nv' wv' S1' S2' v1 v2 v3 => ?_
      obtain ⟨g1, g2, g3⟩ := one he v1 v2 v3
      refine WS_run 1000 (by simp only [go_sem, eRun_exit, Nat.reduceAdd, Nat.reduceLT, Nat.reduceEqDiff, reduceIte, reduceCtorEq, Int.reduceBEq, Int.reduceBNe, Int.reduceLT, Int.reduceLE, Int.reduceGT, Int.reduceGE, Int.reduceEq, Int.reduceAdd, Int.reduceSub, Int.reduceMul, Nat.reduceMul, Nat.reduceSub, Nat.reduceLeDiff, f12, hwr]; rfl) ?_
      exact ih _ _ _ (by omega) ⟨k + 1 + 1, nv', wv', S1', S2', Tl, ⟨(by simp only [go_sem, eRun_exit, Nat.reduceAdd, Nat.reduceLT, Nat.reduceEqDiff, reduceIte, reduceCtorEq, Int.reduceBEq, Int.reduceBNe, Int.reduceLT, Int.reduceLE, Int.reduceGT, Int.reduceGE, Int.reduceEq, Int.reduceAdd, Int.reduceSub, Int.reduceMul, Nat.reduceMul, Nat.reduceSub, Nat.reduceLeDiff, f0] <;> rfl), (by simp only [go_sem, eRun_exit, Nat.reduceAdd, Nat.reduceLT, Nat.reduceEqDiff, reduceIte, reduceCtorEq, Int.reduceBEq, Int.reduceBNe, Int.reduceLT, Int.reduceLE, Int.reduceGT, Int.reduceGE, Int.reduceEq, Int.reduceAdd, Int.reduceSub, Int.reduceMul, Nat.reduceMul, Nat.reduceSub, Nat.reduceLeDiff, f1] <;> rfl), (by simp only [go_sem, eRun_exit, Nat.reduceAdd, Nat.reduceLT, Nat.reduceEqDiff, reduceIte, reduceCtorEq, Int.reduceBEq, Int.reduceBNe, Int.reduceLT, Int.reduceLE, Int.reduceGT, Int.reduceGE, Int.reduceEq, Int.reduceAdd, Int.reduceSub, Int.reduceMul, Nat.reduceMul, Nat.reduceSub, Nat.reduceLeDiff] <;> rfl), (by simp only [go_sem, eRun_exit, Nat.reduceAdd, Nat.reduceLT, Nat.reduceEqDiff, reduceIte, reduceCtorEq, Int.reduceBEq, Int.reduceBNe, Int.reduceLT, Int.reduceLE, Int.reduceGT, Int.reduceGE, Int.reduceEq, Int.reduceAdd, Int.reduceSub, Int.reduceMul, Nat.reduceMul, Nat.reduceSub, Nat.reduceLeDiff] <;> rfl), by rw [g1]; exact (by simp only [go_sem, eRun_exit, Nat.reduceAdd, Nat.reduceLT, Nat.reduceEqDiff, reduceIte, reduceCtorEq, Int.reduceBEq, Int.reduceBNe, Int.reduceLT, Int.reduceLE, Int.reduceGT, Int.reduceGE, Int.reduceEq, Int.reduceAdd, Int.reduceSub, Int.reduceMul, Nat.reduceMul, Nat.reduceSub, Nat.reduceLeDiff] <;> rfl)⟩, (by simp only [go_sem, eRun_exit, Nat.reduceAdd, Nat.reduceLT, Nat.reduceEqDiff, reduceIte, reduceCtorEq, Int.reduceBEq, Int.reduceBNe, Int.reduceLT, Int.reduceLE, Int.reduceGT, Int.reduceGE, Int.reduceEq, Int.reduceAdd, Int.reduceSub, Int.reduceMul, Nat.reduceMul, Nat.reduceSub, Nat.reduceLeDiff, f10] <;> rfl), (by simp only [go_sem, eRun_exit, Nat.reduceAdd, Nat.reduceLT, Nat.reduceEqDiff, reduceIte, reduceCtorEq, Int.reduceBEq, Int.reduceBNe, Int.reduceLT, Int.reduceLE, Int.reduceGT, Int.reduceGE, Int.reduceEq, Int.reduceAdd, Int.reduceSub, Int.reduceMul, Nat.reduceMul, Nat.reduceSub, Nat.reduceLeDiff, f11] <;> rfl), (by simp only [go_sem, eRun_exit, Nat.reduceAdd, Nat.reduceLT, Nat.reduceEqDiff, reduceIte, reduceCtorEq, Int.reduceBEq, Int.reduceBNe, Int.reduceLT, Int.reduceLE, Int.reduceGT, Int.reduceGE, Int.reduceEq, Int.reduceAdd, Int.reduceSub, Int.reduceMul, Nat.reduceMul, Nat.reduceSub, Nat.reduceLeDiff] <;> rfl), by omega, rfl, g2, g3⟩
    by_cases hk2 : x.kind = 2
    · have he : upto r (k + 1 + 1) = upto r (k + 1) ++ [(x.name, (x.args.length : Int))] := by rw [hs1]; simp [litP, hk2]
      rw [hk2] at a0
      refine WS_run 1000 (by simp only [go_sem, eRun_exit, Nat.reduceAdd, Nat.reduceLT, Nat.reduceEqDiff, reduceIte, reduceCtorEq, Int.reduceBEq, Int.reduceBNe, Int.reduceLT, Int.reduceLE, Int.reduceGT, Int.reduceGE, Int.reduceEq, Int.reduceAdd, Int.reduceSub, Int.reduceMul, Nat.reduceMul, Nat.reduceSub, Nat.reduceLeDiff, k_ref8_Preds_p2, k_ref8_Preds_p1, k_ref8_Preds_p0, f7, f8, f9, f11, f12, hlv, hlt, hpos, a0, a1, a2, hul]; rfl) ?_
      refine WS_call (by simp only [go_sem, eRun_exit, Nat.reduceAdd, Nat.reduceLT, Nat.reduceEqDiff, reduceIte, reduceCtorEq, Int.reduceBEq, Int.reduceBNe, Int.reduceLT, Int.reduceLE, Int.reduceGT, Int.reduceGE, Int.reduceEq, Int.reduceAdd, Int.reduceSub, Int.reduceMul, Nat.reduceMul, Nat.reduceSub, Nat.reduceLeDiff]) (by simp only [go_sem, eRun_exit, Nat.reduceAdd, Nat.reduceLT, Nat.reduceEqDiff, reduceIte, reduceCtorEq, Int.reduceBEq, Int.reduceBNe, Int.reduceLT, Int.reduceLE, Int.reduceGT, Int.reduceGE, Int.reduceEq, Int.reduceAdd, Int.reduceSub, Int.reduceMul, Nat.reduceMul, Nat.reduceSub, Nat.reduceLeDiff]; rfl) ?_
      refine pred_ok C hA hll fun w' nv' wv' S1' S2' v1 v2 v3 => ?_
      obtain ⟨g1, g2, g3⟩ := one he v1 v2 v3
      refine WS_run 1000 (by simp only [go_sem, eRun_exit, Nat.reduceAdd, Nat.reduceLT, Nat.reduceEqDiff, reduceIte, reduceCtorEq, Int.reduceBEq, Int.reduceBNe, Int.reduceLT, Int.reduceLE, Int.reduceGT, Int.reduceGE, Int.reduceEq, Int.reduceAdd, Int.reduceSub, Int.reduceMul, Nat.reduceMul, Nat.reduceSub, Nat.reduceLeDiff, f12, hwr]; rfl) ?_
      exact ih _ _ _ (by omega) ⟨k + 1 + 1, nv', wv', S1', S2', Tl, ⟨(by simp only [go_sem, eRun_exit, Nat.reduceAdd, Nat.reduceLT, Nat.reduceEqDiff, reduceIte, reduceCtorEq, Int.reduceBEq, Int.reduceBNe, Int.reduceLT, Int.reduceLE, Int.reduceGT, Int.reduceGE, Int.reduceEq, Int.reduceAdd, Int.reduceSub, Int.reduceMul, Nat.reduceMul, Nat.reduceSub, Nat.reduceLeDiff, f0] <;> rfl), (by simp only [go_sem, eRun_exit, Nat.reduceAdd, Nat.reduceLT, Nat.reduceEqDiff, reduceIte, reduceCtorEq, Int.reduceBEq, Int.reduceBNe, Int.reduceLT, Int.reduceLE, Int.reduceGT, Int.reduceGE, Int.reduceEq, Int.reduceAdd, Int.reduceSub, Int.reduceMul, Nat.reduceMul, Nat.reduceSub, Nat.reduceLeDiff, f1] <;> rfl), (by simp only [go_sem, eRun_exit, Nat.reduceAdd, Nat.reduceLT, Nat.reduceEqDiff, reduceIte, reduceCtorEq, Int.reduceBEq, Int.reduceBNe, Int.reduceLT, Int.reduceLE, Int.reduceGT, Int.reduceGE, Int.reduceEq, Int.reduceAdd, Int.reduceSub, Int.reduceMul, Nat.reduceMul, Nat.reduceSub, Nat.reduceLeDiff] <;> rfl), (by simp only [go_sem, eRun_exit, Nat.reduceAdd, Nat.reduceLT, Nat.reduceEqDiff, reduceIte, reduceCtorEq, Int.reduceBEq, Int.reduceBNe, Int.reduceLT, Int.reduceLE, Int.reduceGT, Int.reduceGE, Int.reduceEq, Int.reduceAdd, Int.reduceSub, Int.reduceMul, Nat.reduceMul, Nat.reduceSub, Nat.reduceLeDiff] <;> rfl), by rw [g1]; exact (by simp only [go_sem, eRun_exit, Nat.reduceAdd, Nat.reduceLT, Nat.reduceEqDiff, reduceIte, reduceCtorEq, Int.reduceBEq, Int.reduceBNe, Int.reduceLT, Int.reduceLE, Int.reduceGT, Int.reduceGE, Int.reduceEq, Int.reduceAdd, Int.reduceSub, Int.reduceMul, Nat.reduceMul, Nat.reduceSub, Nat.reduceLeDiff] <;> rfl)⟩, (by simp only [go_sem, eRun_exit, Nat.reduceAdd, Nat.reduceLT, Nat.reduceEqDiff, reduceIte, reduceCtorEq, Int.reduceBEq, Int.reduceBNe, Int.reduceLT, Int.reduceLE, Int.reduceGT, Int.reduceGE, Int.reduceEq, Int.reduceAdd, Int.reduceSub, Int.reduceMul, Nat.reduceMul, Nat.reduceSub, Nat.reduceLeDiff, f10] <;> rfl), (by simp only [go_sem, eRun_exit, Nat.reduceAdd, Nat.reduceLT, Nat.reduceEqDiff, reduceIte, reduceCtorEq, Int.reduceBEq, Int.reduceBNe, Int.reduceLT, Int.reduceLE, Int.reduceGT, Int.reduceGE, Int.reduceEq, Int.reduceAdd, Int.reduceSub, Int.reduceMul, Nat.reduceMul, Nat.reduceSub, Nat.reduceLeDiff, f11] <;> rfl), (by simp only [go_sem, eRun_exit, Nat.reduceAdd, Nat.reduceLT, Nat.reduceEqDiff, reduceIte, reduceCtorEq, Int.reduceBEq, Int.reduceBNe, Int.reduceLT, Int.reduceLE, Int.reduceGT, Int.reduceGE, Int.reduceEq, Int.reduceAdd, Int.reduceSub, Int.reduceMul, Nat.reduceMul, Nat.reduceSub, Nat.reduceLeDiff] <;> rfl), by omega, rfl, g2, g3⟩
    · have he : upto r (k + 1 + 1) = upto r (k + 1) := by rw [hs1]; simp [litP, hk1, hk2]
      refine WS_run 1000 (by simp only [go_sem, eRun_exit, Nat.reduceAdd, Nat.reduceLT, Nat.reduceEqDiff, reduceIte, reduceCtorEq, Int.reduceBEq, Int.reduceBNe, Int.reduceLT, Int.reduceLE, Int.reduceGT, Int.reduceGE, Int.reduceEq, Int.reduceAdd, Int.reduceSub, Int.reduceMul, Nat.reduceMul, Nat.reduceSub, Nat.reduceLeDiff, k_ref8_Preds_p2, k_ref8_Preds_p1, f7, f8, f9, f11, f12, hlv, hlt, hpos, a0, hk1, hk2, hwr]; rfl) ?_
      exact ih _ _ _ (by omega) ⟨k + 1 + 1, nv, wv, S1, S2, Tl, ⟨(by simp only [go_sem, eRun_exit, Nat.reduceAdd, Nat.reduceLT, Nat.reduceEqDiff, reduceIte, reduceCtorEq, Int.reduceBEq, Int.reduceBNe, Int.reduceLT, Int.reduceLE, Int.reduceGT, Int.reduceGE, Int.reduceEq, Int.reduceAdd, Int.reduceSub, Int.reduceMul, Nat.reduceMul, Nat.reduceSub, Nat.reduceLeDiff, f0] <;> rfl), (by simp only [go_sem, eRun_exit, Nat.reduceAdd, Nat.reduceLT, Nat.reduceEqDiff, reduceIte, reduceCtorEq, Int.reduceBEq, Int.reduceBNe, Int.reduceLT, Int.reduceLE, Int.reduceGT, Int.reduceGE, Int.reduceEq, Int.reduceAdd, Int.reduceSub, Int.reduceMul, Nat.reduceMul, Nat.reduceSub, Nat.reduceLeDiff, f1] <;> rfl), (by simp only [go_sem, eRun_exit, Nat.reduceAdd, Nat.reduceLT, Nat.reduceEqDiff, reduceIte, reduceCtorEq, Int.reduceBEq, Int.reduceBNe, Int.reduceLT, Int.reduceLE, Int.reduceGT, Int.reduceGE, Int.reduceEq, Int.reduceAdd, Int.reduceSub, Int.reduceMul, Nat.reduceMul, Nat.reduceSub, Nat.reduceLeDiff, f7] <;> rfl), (by simp only [go_sem, eRun_exit, Nat.reduceAdd, Nat.reduceLT, Nat.reduceEqDiff, reduceIte, reduceCtorEq, Int.reduceBEq, Int.reduceBNe, Int.reduceLT, Int.reduceLE, Int.reduceGT, Int.reduceGE, Int.reduceEq, Int.reduceAdd, Int.reduceSub, Int.reduceMul, Nat.reduceMul, Nat.reduceSub, Nat.reduceLeDiff, f8] <;> rfl), by rw [he]; exact (by simp only [go_sem, eRun_exit, Nat.reduceAdd, Nat.reduceLT, Nat.reduceEqDiff, reduceIte, reduceCtorEq, Int.reduceBEq, Int.reduceBNe, Int.reduceLT, Int.reduceLE, Int.reduceGT, Int.reduceGE, Int.reduceEq, Int.reduceAdd, Int.reduceSub, Int.reduceMul, Nat.reduceMul, Nat.reduceSub, Nat.reduceLeDiff, f9] <;> rfl)⟩, (by simp only [go_sem, eRun_exit, Nat.reduceAdd, Nat.reduceLT, Nat.reduceEqDiff, reduceIte, reduceCtorEq, Int.reduceBEq, Int.reduceBNe, Int.reduceLT, Int.reduceLE, Int.reduceGT, Int.reduceGE, Int.reduceEq, Int.reduceAdd, Int.reduceSub, Int.reduceMul, Nat.reduceMul, Nat.reduceSub, Nat.reduceLeDiff, f10] <;> rfl), (by simp only [go_sem, eRun_exit, Nat.reduceAdd, Nat.reduceLT, Nat.reduceEqDiff, reduceIte, reduceCtorEq, Int.reduceBEq, Int.reduceBNe, Int.reduceLT, Int.reduceLE, Int.reduceGT, Int.reduceGE, Int.reduceEq, Int.reduceAdd, Int.reduceSub, Int.reduceMul, Nat.reduceMul, Nat.reduceSub, Nat.reduceLeDiff, f11] <;> rfl), (by simp only [go_sem, eRun_exit, Nat.reduceAdd, Nat.reduceLT, Nat.reduceEqDiff, reduceIte, reduceCtorEq, Int.reduceBEq, Int.reduceBNe, Int.reduceLT, Int.reduceLE, Int.reduceGT, Int.reduceGE, Int.reduceEq, Int.reduceAdd, Int.reduceSub, Int.reduceMul, Nat.reduceMul, Nat.reduceSub, Nat.reduceLeDiff] <;> rfl), by omega, rfl, by rw [he]; exact hA, hL⟩
end Go.Proofs.Ytjidefnbancmfaa

/- The reference's Preds, whole; Defined. -/
set_option linter.unusedVariables false
set_option maxRecDepth 10000
set_option linter.unusedSimpArgs false
namespace Go.Proofs.Ytjidefnbancmfaa
open Go.AE Delphi
variable {tab : Tab}
def PrRI (aw : AW) (rv fv : V) (rules : List Rl) (q : Nat) (f : Fr) (w : AW) : Prop :=
  ∃ i nv wv S1 S2, PF f rv fv nv wv (rsees st0 ((rules.take i).flatMap ruleP)).2 ∧ f.get 10 = some (.int .i64 (Int.ofNat i)) ∧ i ≤ rules.length ∧ q = rules.length - i ∧ NW aw w nv wv (rsees st0 ((rules.take i).flatMap ruleP)).1 S1 S2
def PrFI (aw : AW) (rv fv : V) (rules : List Rl) (facts : List Fa) (q : Nat) (f : Fr) (w : AW) : Prop :=
  ∃ i nv wv S1 S2, PF f rv fv nv wv (rsees (rsees st0 (rules.flatMap ruleP)) ((facts.take i).flatMap factP)).2 ∧ f.get 13 = some (.int .i64 (Int.ofNat i)) ∧ i ≤ facts.length ∧ q = facts.length - i ∧ NW aw w nv wv (rsees (rsees st0 (rules.flatMap ruleP)) ((facts.take i).flatMap factP)).1 S1 S2
theorem rpre_len {rules : List Rl} (h : ∀ r ∈ rules, RBd r) (hn : rules.length ≤ 1000) (i : Nat) : (rsees st0 ((rules.take i).flatMap ruleP)).1.length ≤ 1001000 := by
  have h1 := rsees_len ((rules.take i).flatMap ruleP) st0
  have h2 := rules_len (rules.take i) fun r hr => h r (List.mem_of_mem_take hr)
  have h3 : (rules.take i).length ≤ 1000 := by rw [List.length_take]; omega
  have : st0.1.length = 0 := rfl
  omega
/-- Preds. -/
theorem preds_ok (C : Codes tab) {T T2 : Nat → Prop} {aw : AW} {rv fv : V} {rules : List Rl} {facts : List Fa} {K : V → AW → Prop} (hr : RdL (RlC T) T aw rv 4 rules) (hf : RdL (FaC T2) T2 aw fv 2 facts) (hbd : Bds rules facts)
    (h : ∀ w nv wv S1 S2, NW aw w nv wv (rsees st0 (allP rules facts)).1 S1 S2 → K (.tuple [nv, wv, .bool (rsees st0 (allP rules facts)).2]) w) : WF tab n_ref8_Preds [rv, fv] aw K := by
  refine WF_of C.c_ref8_Preds rfl ?_
  have hlv := rdL_lenV hr
  have hlf := rdL_lenV hf
  refine WS_run 1000 (by simp only [go_sem, eRun_exit, Nat.reduceAdd, Nat.reduceLT, Nat.reduceEqDiff, reduceIte, reduceCtorEq, Int.reduceBEq, Int.reduceBNe, Int.reduceLT, Int.reduceLE, Int.reduceGT, Int.reduceGE, Int.reduceEq, Int.reduceAdd, Int.reduceSub, Int.reduceMul, Nat.reduceMul, Nat.reduceSub, Nat.reduceLeDiff, k_ref8_Preds, k_ref8_Preds_p8]; rfl) ?_
  refine WS_loopJ (PrRI aw rv fv rules) (fun f w => ∃ nv wv S1 S2, PF f rv fv nv wv (rsees st0 (rules.flatMap ruleP)).2 ∧ NW aw w nv wv (rsees st0 (rules.flatMap ruleP)).1 S1 S2) ?_ ?_ rules.length ⟨0, .nilslice, .nilslice, fun _ => False, fun _ => False, ⟨(by simp only [go_sem, eRun_exit, Nat.reduceAdd, Nat.reduceLT, Nat.reduceEqDiff, reduceIte, reduceCtorEq, Int.reduceBEq, Int.reduceBNe, Int.reduceLT, Int.reduceLE, Int.reduceGT, Int.reduceGE, Int.reduceEq, Int.reduceAdd, Int.reduceSub, Int.reduceMul, Nat.reduceMul, Nat.reduceSub, Nat.reduceLeDiff] <;> rfl), (by simp only [go_sem, eRun_exit, Nat.reduceAdd, Nat.reduceLT, Nat.reduceEqDiff, reduceIte, reduceCtorEq, Int.reduceBEq, Int.reduceBNe, Int.reduceLT, Int.reduceLE, Int.reduceGT, Int.reduceGE, Int.reduceEq, Int.reduceAdd, Int.reduceSub, Int.reduceMul, Nat.reduceMul, Nat.reduceSub, Nat.reduceLeDiff] <;> rfl), (by simp only [go_sem, eRun_exit, Nat.reduceAdd, Nat.reduceLT, Nat.reduceEqDiff, reduceIte, reduceCtorEq, Int.reduceBEq, Int.reduceBNe, Int.reduceLT, Int.reduceLE, Int.reduceGT, Int.reduceGE, Int.reduceEq, Int.reduceAdd, Int.reduceSub, Int.reduceMul, Nat.reduceMul, Nat.reduceSub, Nat.reduceLeDiff] <;> rfl), (by simp only [go_sem, eRun_exit, Nat.reduceAdd, Nat.reduceLT, Nat.reduceEqDiff, reduceIte, reduceCtorEq, Int.reduceBEq, Int.reduceBNe, Int.reduceLT, Int.reduceLE, Int.reduceGT, Int.reduceGE, Int.reduceEq, Int.reduceAdd, Int.reduceSub, Int.reduceMul, Nat.reduceMul, Nat.reduceSub, Nat.reduceLeDiff] <;> rfl), (by simp only [go_sem, eRun_exit, Nat.reduceAdd, Nat.reduceLT, Nat.reduceEqDiff, reduceIte, reduceCtorEq, Int.reduceBEq, Int.reduceBNe, Int.reduceLT, Int.reduceLE, Int.reduceGT, Int.reduceGE, Int.reduceEq, Int.reduceAdd, Int.reduceSub, Int.reduceMul, Nat.reduceMul, Nat.reduceSub, Nat.reduceLeDiff] <;> rfl)⟩, (by simp only [go_sem, eRun_exit, Nat.reduceAdd, Nat.reduceLT, Nat.reduceEqDiff, reduceIte, reduceCtorEq, Int.reduceBEq, Int.reduceBNe, Int.reduceLT, Int.reduceLE, Int.reduceGT, Int.reduceGE, Int.reduceEq, Int.reduceAdd, Int.reduceSub, Int.reduceMul, Nat.reduceMul, Nat.reduceSub, Nat.reduceLeDiff] <;> rfl), by omega, rfl, .nil, .nil, fun _ h => h.elim, fun _ h => h.elim, Frm.refl _⟩
  · rintro q f w ⟨i, nv, wv, S1, S2, ⟨f0, f1, f7, f8, f9⟩, f10, hi, rfl, hA⟩ ih exit
    by_cases hlt : i < rules.length
    case neg =>
      rw [List.take_of_length_le (by omega)] at hA f9
      refine WS_runB 1000 (by simp only [go_sem, Nat.reduceAdd, Nat.reduceLT, Nat.reduceEqDiff, reduceIte, reduceCtorEq, Int.reduceBEq, Int.reduceBNe, Int.reduceLT, Int.reduceLE, Int.reduceGT, Int.reduceGE, Int.reduceEq, Int.reduceAdd, Int.reduceSub, Int.reduceMul, Nat.reduceMul, Nat.reduceSub, Nat.reduceLeDiff, k_ref8_Preds_p4, f0, f10, hlv, hlt]; rfl) ?_
      exact exit _ _ _ ⟨nv, wv, S1, S2, ⟨(by simp only [go_sem, eRun_exit, Nat.reduceAdd, Nat.reduceLT, Nat.reduceEqDiff, reduceIte, reduceCtorEq, Int.reduceBEq, Int.reduceBNe, Int.reduceLT, Int.reduceLE, Int.reduceGT, Int.reduceGE, Int.reduceEq, Int.reduceAdd, Int.reduceSub, Int.reduceMul, Nat.reduceMul, Nat.reduceSub, Nat.reduceLeDiff, f0] <;> rfl), (by simp only [go_sem, eRun_exit, Nat.reduceAdd, Nat.reduceLT, Nat.reduceEqDiff, reduceIte, reduceCtorEq, Int.reduceBEq, Int.reduceBNe, Int.reduceLT, Int.reduceLE, Int.reduceGT, Int.reduceGE, Int.reduceEq, Int.reduceAdd, Int.reduceSub, Int.reduceMul, Nat.reduceMul, Nat.reduceSub, Nat.reduceLeDiff, f1] <;> rfl), (by simp only [go_sem, eRun_exit, Nat.reduceAdd, Nat.reduceLT, Nat.reduceEqDiff, reduceIte, reduceCtorEq, Int.reduceBEq, Int.reduceBNe, Int.reduceLT, Int.reduceLE, Int.reduceGT, Int.reduceGE, Int.reduceEq, Int.reduceAdd, Int.reduceSub, Int.reduceMul, Nat.reduceMul, Nat.reduceSub, Nat.reduceLeDiff, f7] <;> rfl), (by simp only [go_sem, eRun_exit, Nat.reduceAdd, Nat.reduceLT, Nat.reduceEqDiff, reduceIte, reduceCtorEq, Int.reduceBEq, Int.reduceBNe, Int.reduceLT, Int.reduceLE, Int.reduceGT, Int.reduceGE, Int.reduceEq, Int.reduceAdd, Int.reduceSub, Int.reduceMul, Nat.reduceMul, Nat.reduceSub, Nat.reduceLeDiff, f8] <;> rfl), (by simp only [go_sem, eRun_exit, Nat.reduceAdd, Nat.reduceLT, Nat.reduceEqDiff, reduceIte, reduceCtorEq, Int.reduceBEq, Int.reduceBNe, Int.reduceLT, Int.reduceLE, Int.reduceGT, Int.reduceGE, Int.reduceEq, Int.reduceAdd, Int.reduceSub, Int.reduceMul, Nat.reduceMul, Nat.reduceSub, Nat.reduceLeDiff, f9] <;> rfl)⟩, hA⟩ rfl
    obtain ⟨r, hrr⟩ : ∃ t, rules[i]? = some t := ⟨_, List.getElem?_eq_getElem hlt⟩
    have hbr := hbd.rl r (List.mem_of_getElem? hrr)
    have hwr : IntKind.wrap .i64 (Int.ofNat i + 1) = Int.ofNat (i + 1) := wrap_succ (by have := hbd.n; omega)
    obtain ⟨b, o, c, xs, rfl, hxs, a4, hp⟩ := rls_at2 hr hA.frm hrr
    obtain ⟨v, u, rfl, hv, hu⟩ := hxs
    have a0 : w.load b (o + i * 4) 3 = some [.int .i64 (Int.ofNat r.head.kind), .str r.head.name, v] := hp 0 3 (by omega)
    have a3 : w.load b (o + i * 4 + 3) 1 = some [u] := hp 3 1 (by omega)
    have ff := fresh_frm (S := fun _ => False) w [.int .i64 (Int.ofNat r.head.kind), .str r.head.name, v]
    have cb := fresh_cb w [.int .i64 (Int.ofNat r.head.kind), .str r.head.name, v]
    obtain ⟨b', o', c', xs', e1, hxs', _, hp'⟩ := rls_at2 hr (hA.frm.tr ff) hrr
    have hp'3 := hp' 3 1 (by omega)
    cases e1
    have a3' : (w.fresh [.int .i64 (Int.ofNat r.head.kind), .str r.head.name, v]).load b (o + i * 4 + 3) 1 = some [u] := by
      have hb : b < w.next := by
        have := hr.frm (r := RlC T) (S := fun _ => False) (fun _ _ h => h.frm hA.frm fun _ _ h => h) hA.frm fun _ _ h => h
        obtain ⟨b2, o2, c2, xs2, e2, _, hb2, _⟩ := rls_at this hrr
        cases e2; exact hb2
      have : (w.fresh [V.int .i64 (Int.ofNat r.head.kind), .str r.head.name, v]).heap.get b = w.heap.get b := AE.T.get_put_ne (by omega)
      have e : ∀ n k, (w.fresh [V.int .i64 (Int.ofNat r.head.kind), .str r.head.name, v]).load b n k = w.load b n k := by
        intro n k
        simp only [AW.load, this]; rfl
      rw [e]; exact a3
    obtain ⟨xss, hrd, hall⟩ := hu
    have f1w := hA.frm.tr ff
    have hrd1 := hrd.frm f1w fun _ _ h => h
    have hel := hrd1.elems
    obtain ⟨lv, w3, u1, u2, u3⟩ := known_append (bytes := 48) cb (n := 1) (esz := 3) rfl (by omega) hrd.len (by have := hbr.body; omega) (by have := hbr.body; omega)
    have hov : over [V.int .i64 0, V.str [], V.nilslice] 0 [V.int .i64 (Int.ofNat r.head.kind), .str r.head.name, v] = some [V.int .i64 (Int.ofNat r.head.kind), .str r.head.name, v] := rfl
    refine WS_run 1000 (by simp only [go_sem, eRun_exit, Nat.reduceAdd, Nat.reduceLT, Nat.reduceEqDiff, reduceIte, reduceCtorEq, Int.reduceBEq, Int.reduceBNe, Int.reduceLT, Int.reduceLE, Int.reduceGT, Int.reduceGE, Int.reduceEq, Int.reduceAdd, Int.reduceSub, Int.reduceMul, Nat.reduceMul, Nat.reduceSub, Nat.reduceLeDiff, k_ref8_Preds_p4, k_ref8_Preds_p3, f0, f10, hlv, hlt]; rfl) ?_
    refine WS_drawn ?_
    refine WDs_run 100 (by simp only [go_sem, eRun_exit, Nat.reduceAdd, Nat.reduceLT, Nat.reduceEqDiff, reduceIte, reduceCtorEq, Int.reduceBEq, Int.reduceBNe, Int.reduceLT, Int.reduceLE, Int.reduceGT, Int.reduceGE, Int.reduceEq, Int.reduceAdd, Int.reduceSub, Int.reduceMul, Nat.reduceMul, Nat.reduceSub, Nat.reduceLeDiff, f0, f10, hlt, a0, a3', evParts, fillV, hov, hel, u1, List.length_cons, List.length_nil]; rfl) ?_
    refine WDs_nil ⟨(show chkAll _ _ [(10, 5)] from by simp only [go_sem, eRun_exit, Nat.reduceAdd, Nat.reduceLT, Nat.reduceEqDiff, reduceIte, reduceCtorEq, Int.reduceBEq, Int.reduceBNe, Int.reduceLT, Int.reduceLE, Int.reduceGT, Int.reduceGE, Int.reduceEq, Int.reduceAdd, Int.reduceSub, Int.reduceMul, Nat.reduceMul, Nat.reduceSub, Nat.reduceLeDiff, chkAll, chk, List.reverse_cons, List.reverse_nil, mkStp_fe, mkStp_v, mkStp_0, mkStp_1, List.getElem?_nil, false_or, or_true, or_false, exists_eq', Option.some.injEq, Prod.mk.injEq, Bool.true_eq_false, Bool.false_eq_true, and_true, true_and, implies_true,  a3, a3']), ?_⟩
    have e : 1 + r.body.length = (rAll r).length := by simp [rAll]; omega
    rw [e] at u2
    have f3 := ff.tr u3
    have hLV : LV T aw w3 lv r S1 S2 (fun x => (x = w.next ∨ ((w.fresh [V.int .i64 (Int.ofNat r.head.kind), .str r.head.name, v]).next ≤ x ∧ x < w3.next)) ∧ x < w3.next) := by
      refine ⟨⟨[V.int .i64 (Int.ofNat r.head.kind), .str r.head.name, v] :: xss, Rd.cut u2, .cons ⟨v, rfl, hv⟩ hall⟩, fun x hx => ⟨hx.2, fun h => ?_, fun h => ?_⟩⟩
      · have := (hA.s1 x h).2.1
        have e1 : (w.fresh [V.int .i64 (Int.ofNat r.head.kind), .str r.head.name, v]).next = w.next + 1 := rfl
        rcases hx.1 with h | h <;> omega
      · have := (hA.s2 x h).2
        have e1 : (w.fresh [V.int .i64 (Int.ofNat r.head.kind), .str r.head.name, v]).next = w.next + 1 := rfl
        rcases hx.1 with h | h <;> omega
    refine WS_run 1000 (by simp only [go_sem, eRun_exit, Nat.reduceAdd, Nat.reduceLT, Nat.reduceEqDiff, reduceIte, reduceCtorEq, Int.reduceBEq, Int.reduceBNe, Int.reduceLT, Int.reduceLE, Int.reduceGT, Int.reduceGE, Int.reduceEq, Int.reduceAdd, Int.reduceSub, Int.reduceMul, Nat.reduceMul, Nat.reduceSub, Nat.reduceLeDiff]; rfl) ?_
    refine WS_loopJ (PkI T aw (.slice b o rules.length c) fv lv i r (rsees st0 ((rules.take i).flatMap ruleP))) (PkJ aw (.slice b o rules.length c) fv i r (rsees st0 ((rules.take i).flatMap ruleP))) (fun n f w hI ih out => pk_step C hbr (by have := rpre_len hbd.rl hbd.n i; omega) hI ih out) ?_ (rAll r).length
      ⟨0, nv, wv, S1, S2, _, ⟨(by simp only [go_sem, eRun_exit, Nat.reduceAdd, Nat.reduceLT, Nat.reduceEqDiff, reduceIte, reduceCtorEq, Int.reduceBEq, Int.reduceBNe, Int.reduceLT, Int.reduceLE, Int.reduceGT, Int.reduceGE, Int.reduceEq, Int.reduceAdd, Int.reduceSub, Int.reduceMul, Nat.reduceMul, Nat.reduceSub, Nat.reduceLeDiff, f0] <;> rfl), (by simp only [go_sem, eRun_exit, Nat.reduceAdd, Nat.reduceLT, Nat.reduceEqDiff, reduceIte, reduceCtorEq, Int.reduceBEq, Int.reduceBNe, Int.reduceLT, Int.reduceLE, Int.reduceGT, Int.reduceGE, Int.reduceEq, Int.reduceAdd, Int.reduceSub, Int.reduceMul, Nat.reduceMul, Nat.reduceSub, Nat.reduceLeDiff, f1] <;> rfl), (by simp only [go_sem, eRun_exit, Nat.reduceAdd, Nat.reduceLT, Nat.reduceEqDiff, reduceIte, reduceCtorEq, Int.reduceBEq, Int.reduceBNe, Int.reduceLT, Int.reduceLE, Int.reduceGT, Int.reduceGE, Int.reduceEq, Int.reduceAdd, Int.reduceSub, Int.reduceMul, Nat.reduceMul, Nat.reduceSub, Nat.reduceLeDiff, f7] <;> rfl), (by simp only [go_sem, eRun_exit, Nat.reduceAdd, Nat.reduceLT, Nat.reduceEqDiff, reduceIte, reduceCtorEq, Int.reduceBEq, Int.reduceBNe, Int.reduceLT, Int.reduceLE, Int.reduceGT, Int.reduceGE, Int.reduceEq, Int.reduceAdd, Int.reduceSub, Int.reduceMul, Nat.reduceMul, Nat.reduceSub, Nat.reduceLeDiff, f8] <;> rfl), (by simp only [go_sem, eRun_exit, Nat.reduceAdd, Nat.reduceLT, Nat.reduceEqDiff, reduceIte, reduceCtorEq, Int.reduceBEq, Int.reduceBNe, Int.reduceLT, Int.reduceLE, Int.reduceGT, Int.reduceGE, Int.reduceEq, Int.reduceAdd, Int.reduceSub, Int.reduceMul, Nat.reduceMul, Nat.reduceSub, Nat.reduceLeDiff, f9] <;> rfl)⟩, (by simp only [go_sem, eRun_exit, Nat.reduceAdd, Nat.reduceLT, Nat.reduceEqDiff, reduceIte, reduceCtorEq, Int.reduceBEq, Int.reduceBNe, Int.reduceLT, Int.reduceLE, Int.reduceGT, Int.reduceGE, Int.reduceEq, Int.reduceAdd, Int.reduceSub, Int.reduceMul, Nat.reduceMul, Nat.reduceSub, Nat.reduceLeDiff, f10] <;> rfl), (by simp only [go_sem, eRun_exit, Nat.reduceAdd, Nat.reduceLT, Nat.reduceEqDiff, reduceIte, reduceCtorEq, Int.reduceBEq, Int.reduceBNe, Int.reduceLT, Int.reduceLE, Int.reduceGT, Int.reduceGE, Int.reduceEq, Int.reduceAdd, Int.reduceSub, Int.reduceMul, Nat.reduceMul, Nat.reduceSub, Nat.reduceLeDiff] <;> rfl), (by simp only [go_sem, eRun_exit, Nat.reduceAdd, Nat.reduceLT, Nat.reduceEqDiff, reduceIte, reduceCtorEq, Int.reduceBEq, Int.reduceBNe, Int.reduceLT, Int.reduceLE, Int.reduceGT, Int.reduceGE, Int.reduceEq, Int.reduceAdd, Int.reduceSub, Int.reduceMul, Nat.reduceMul, Nat.reduceSub, Nat.reduceLeDiff] <;> rfl), by omega, rfl, hA.ext f3, hLV⟩
    rintro f w7 ⟨nv', wv', S1', S2', ⟨f0, f1, f7, f8, f9⟩, f10, hA7⟩
    have e2 : rsees (rsees st0 ((rules.take i).flatMap ruleP)) (ruleP r) = rsees st0 ((rules.take (i + 1)).flatMap ruleP) := by
      rw [take_snoc_of hrr, List.flatMap_append, rsees_app]; simp
    rw [e2] at f9 hA7
    refine WS_run 1000 (by simp only [go_sem, eRun_exit, Nat.reduceAdd, Nat.reduceLT, Nat.reduceEqDiff, reduceIte, reduceCtorEq, Int.reduceBEq, Int.reduceBNe, Int.reduceLT, Int.reduceLE, Int.reduceGT, Int.reduceGE, Int.reduceEq, Int.reduceAdd, Int.reduceSub, Int.reduceMul, Nat.reduceMul, Nat.reduceSub, Nat.reduceLeDiff, f10, hwr]; rfl) ?_
    exact ih _ _ _ (by omega) ⟨i + 1, nv', wv', S1', S2', ⟨(by simp only [go_sem, eRun_exit, Nat.reduceAdd, Nat.reduceLT, Nat.reduceEqDiff, reduceIte, reduceCtorEq, Int.reduceBEq, Int.reduceBNe, Int.reduceLT, Int.reduceLE, Int.reduceGT, Int.reduceGE, Int.reduceEq, Int.reduceAdd, Int.reduceSub, Int.reduceMul, Nat.reduceMul, Nat.reduceSub, Nat.reduceLeDiff, f0] <;> rfl), (by simp only [go_sem, eRun_exit, Nat.reduceAdd, Nat.reduceLT, Nat.reduceEqDiff, reduceIte, reduceCtorEq, Int.reduceBEq, Int.reduceBNe, Int.reduceLT, Int.reduceLE, Int.reduceGT, Int.reduceGE, Int.reduceEq, Int.reduceAdd, Int.reduceSub, Int.reduceMul, Nat.reduceMul, Nat.reduceSub, Nat.reduceLeDiff, f1] <;> rfl), (by simp only [go_sem, eRun_exit, Nat.reduceAdd, Nat.reduceLT, Nat.reduceEqDiff, reduceIte, reduceCtorEq, Int.reduceBEq, Int.reduceBNe, Int.reduceLT, Int.reduceLE, Int.reduceGT, Int.reduceGE, Int.reduceEq, Int.reduceAdd, Int.reduceSub, Int.reduceMul, Nat.reduceMul, Nat.reduceSub, Nat.reduceLeDiff, f7] <;> rfl), (by simp only [go_sem, eRun_exit, Nat.reduceAdd, Nat.reduceLT, Nat.reduceEqDiff, reduceIte, reduceCtorEq, Int.reduceBEq, Int.reduceBNe, Int.reduceLT, Int.reduceLE, Int.reduceGT, Int.reduceGE, Int.reduceEq, Int.reduceAdd, Int.reduceSub, Int.reduceMul, Nat.reduceMul, Nat.reduceSub, Nat.reduceLeDiff, f8] <;> rfl), (by simp only [go_sem, eRun_exit, Nat.reduceAdd, Nat.reduceLT, Nat.reduceEqDiff, reduceIte, reduceCtorEq, Int.reduceBEq, Int.reduceBNe, Int.reduceLT, Int.reduceLE, Int.reduceGT, Int.reduceGE, Int.reduceEq, Int.reduceAdd, Int.reduceSub, Int.reduceMul, Nat.reduceMul, Nat.reduceSub, Nat.reduceLeDiff, f9] <;> rfl)⟩, (by simp only [go_sem, eRun_exit, Nat.reduceAdd, Nat.reduceLT, Nat.reduceEqDiff, reduceIte, reduceCtorEq, Int.reduceBEq, Int.reduceBNe, Int.reduceLT, Int.reduceLE, Int.reduceGT, Int.reduceGE, Int.reduceEq, Int.reduceAdd, Int.reduceSub, Int.reduceMul, Nat.reduceMul, Nat.reduceSub, Nat.reduceLeDiff] <;> rfl), by omega, rfl, hA7⟩
  · rintro f w ⟨nv, wv, S1, S2, ⟨f0, f1, f7, f8, f9⟩, hA⟩
    refine WS_run 1000 (by simp only [go_sem, eRun_exit, Nat.reduceAdd, Nat.reduceLT, Nat.reduceEqDiff, reduceIte, reduceCtorEq, Int.reduceBEq, Int.reduceBNe, Int.reduceLT, Int.reduceLE, Int.reduceGT, Int.reduceGE, Int.reduceEq, Int.reduceAdd, Int.reduceSub, Int.reduceMul, Nat.reduceMul, Nat.reduceSub, Nat.reduceLeDiff, k_ref8_Preds_p7]; rfl) ?_
    refine WS_loopJ (PrFI aw rv fv rules facts) (fun f w => ∃ nv wv S1 S2, PF f rv fv nv wv (rsees st0 (allP rules facts)).2 ∧ NW aw w nv wv (rsees st0 (allP rules facts)).1 S1 S2) ?_ ?_ facts.length ⟨0, nv, wv, S1, S2, ⟨(by simp only [go_sem, eRun_exit, Nat.reduceAdd, Nat.reduceLT, Nat.reduceEqDiff, reduceIte, reduceCtorEq, Int.reduceBEq, Int.reduceBNe, Int.reduceLT, Int.reduceLE, Int.reduceGT, Int.reduceGE, Int.reduceEq, Int.reduceAdd, Int.reduceSub, Int.reduceMul, Nat.reduceMul, Nat.reduceSub, Nat.reduceLeDiff, f0] <;> rfl), (by simp only [go_sem, eRun_exit, Nat.reduceAdd, Nat.reduceLT, Nat.reduceEqDiff, reduceIte, reduceCtorEq, Int.reduceBEq, Int.reduceBNe, Int.reduceLT, Int.reduceLE, Int.reduceGT, Int.reduceGE, Int.reduceEq, Int.reduceAdd, Int.reduceSub, Int.reduceMul, Nat.reduceMul, Nat.reduceSub, Nat.reduceLeDiff, f1] <;> rfl), (by simp only [go_sem, eRun_exit, Nat.reduceAdd, Nat.reduceLT, Nat.reduceEqDiff, reduceIte, reduceCtorEq, Int.reduceBEq, Int.reduceBNe, Int.reduceLT, Int.reduceLE, Int.reduceGT, Int.reduceGE, Int.reduceEq, Int.reduceAdd, Int.reduceSub, Int.reduceMul, Nat.reduceMul, Nat.reduceSub, Nat.reduceLeDiff, f7] <;> rfl), (by simp only [go_sem, eRun_exit, Nat.reduceAdd, Nat.reduceLT, Nat.reduceEqDiff, reduceIte, reduceCtorEq, Int.reduceBEq, Int.reduceBNe, Int.reduceLT, Int.reduceLE, Int.reduceGT, Int.reduceGE, Int.reduceEq, Int.reduceAdd, Int.reduceSub, Int.reduceMul, Nat.reduceMul, Nat.reduceSub, Nat.reduceLeDiff, f8] <;> rfl), (by simp only [go_sem, eRun_exit, Nat.reduceAdd, Nat.reduceLT, Nat.reduceEqDiff, reduceIte, reduceCtorEq, Int.reduceBEq, Int.reduceBNe, Int.reduceLT, Int.reduceLE, Int.reduceGT, Int.reduceGE, Int.reduceEq, Int.reduceAdd, Int.reduceSub, Int.reduceMul, Nat.reduceMul, Nat.reduceSub, Nat.reduceLeDiff, f9] <;> rfl)⟩, (by simp only [go_sem, eRun_exit, Nat.reduceAdd, Nat.reduceLT, Nat.reduceEqDiff, reduceIte, reduceCtorEq, Int.reduceBEq, Int.reduceBNe, Int.reduceLT, Int.reduceLE, Int.reduceGT, Int.reduceGE, Int.reduceEq, Int.reduceAdd, Int.reduceSub, Int.reduceMul, Nat.reduceMul, Nat.reduceSub, Nat.reduceLeDiff] <;> rfl), by omega, rfl, hA⟩
    · rintro q f w ⟨i, nv, wv, S1, S2, ⟨f0, f1, f7, f8, f9⟩, f13, hi, rfl, hA⟩ ih exit
      by_cases hlt : i < facts.length
      case neg =>
        rw [List.take_of_length_le (by omega)] at hA f9
        have e : rsees (rsees st0 (rules.flatMap ruleP)) (facts.flatMap factP) = rsees st0 (allP rules facts) := (rsees_app _ _ _).symm
        rw [e] at hA f9
        refine WS_runB 1000 (by simp only [go_sem, Nat.reduceAdd, Nat.reduceLT, Nat.reduceEqDiff, reduceIte, reduceCtorEq, Int.reduceBEq, Int.reduceBNe, Int.reduceLT, Int.reduceLE, Int.reduceGT, Int.reduceGE, Int.reduceEq, Int.reduceAdd, Int.reduceSub, Int.reduceMul, Nat.reduceMul, Nat.reduceSub, Nat.reduceLeDiff, k_ref8_Preds_p6, f1, f13, hlf, hlt]; rfl) ?_
        exact exit _ _ _ ⟨nv, wv, S1, S2, ⟨(by simp only [go_sem, eRun_exit, Nat.reduceAdd, Nat.reduceLT, Nat.reduceEqDiff, reduceIte, reduceCtorEq, Int.reduceBEq, Int.reduceBNe, Int.reduceLT, Int.reduceLE, Int.reduceGT, Int.reduceGE, Int.reduceEq, Int.reduceAdd, Int.reduceSub, Int.reduceMul, Nat.reduceMul, Nat.reduceSub, Nat.reduceLeDiff, f0] <;> rfl), (by simp only [go_sem, eRun_exit, Nat.reduceAdd, Nat.reduceLT, Nat.reduceEqDiff, reduceIte, reduceCtorEq, Int.reduceBEq, Int.reduceBNe, Int.reduceLT, Int.reduceLE, Int.reduceGT, Int.reduceGE, Int.reduceEq, Int.reduceAdd, Int.reduceSub, Int.reduceMul, Nat.reduceMul, Nat.reduceSub, Nat.reduceLeDiff, f1] <;> rfl), (by simp only [go_sem, eRun_exit, Nat.reduceAdd, Nat.reduceLT, Nat.reduceEqDiff, reduceIte, reduceCtorEq, Int.reduceBEq, Int.reduceBNe, Int.reduceLT, Int.reduceLE, Int.reduceGT, Int.reduceGE, Int.reduceEq, Int.reduceAdd, Int.reduceSub, Int.reduceMul, Nat.reduceMul, Nat.reduceSub, Nat.reduceLeDiff, f7] <;> rfl), (by simp only [go_sem, eRun_exit, Nat.reduceAdd, Nat.reduceLT, Nat.reduceEqDiff, reduceIte, reduceCtorEq, Int.reduceBEq, Int.reduceBNe, Int.reduceLT, Int.reduceLE, Int.reduceGT, Int.reduceGE, Int.reduceEq, Int.reduceAdd, Int.reduceSub, Int.reduceMul, Nat.reduceMul, Nat.reduceSub, Nat.reduceLeDiff, f8] <;> rfl), (by simp only [go_sem, eRun_exit, Nat.reduceAdd, Nat.reduceLT, Nat.reduceEqDiff, reduceIte, reduceCtorEq, Int.reduceBEq, Int.reduceBNe, Int.reduceLT, Int.reduceLE, Int.reduceGT, Int.reduceGE, Int.reduceEq, Int.reduceAdd, Int.reduceSub, Int.reduceMul, Nat.reduceMul, Nat.reduceSub, Nat.reduceLeDiff, f9] <;> rfl)⟩, hA⟩ rfl
      obtain ⟨r, hrr⟩ : ∃ t, facts[i]? = some t := ⟨_, List.getElem?_eq_getElem hlt⟩
      have hwr : IntKind.wrap .i64 (Int.ofNat i + 1) = Int.ofNat (i + 1) := wrap_succ (by have := hbd.m; omega)
      have hf0 := hf
      obtain ⟨xss, y1, y2⟩ := hf0
      have h3 : RdL (fun _ => FaC T2 aw) T2 w fv 2 facts := ⟨xss, y1.frm hA.frm fun _ _ h => h, y2⟩
      rcases h3.inv (fun a xs hx => (FaC.one hx).1) with ⟨_, q2⟩ | ⟨b, o, c, rfl, _, _, _, hat⟩
      · rw [q2] at hlt; simp at hlt
      obtain ⟨xs, hx, hp⟩ := hat i r hrr
      obtain ⟨v, rfl, _, hv⟩ := hx
      have a0 : w.load b (o + i * 2) 1 = some [.str r.name] := hp 0 1 (by omega)
      have a1 : w.load b (o + i * 2 + 1) 1 = some [v] := hp 1 1 (by omega)
      have hvl := hv.lenV
      have hll : (rsees (rsees st0 (rules.flatMap ruleP)) ((facts.take i).flatMap factP)).1.length ≤ 10000000 := by
        have h1 := rsees_len ((facts.take i).flatMap factP) (rsees st0 (rules.flatMap ruleP))
        have h2 := flat_le factP (fun _ => Nat.le_refl _) (facts.take i)
        have h3 := rpre_len hbd.rl hbd.n rules.length
        rw [List.take_length] at h3
        have h4 : (facts.take i).length ≤ 1000 := by rw [List.length_take]; have := hbd.m; omega
        omega
      refine WS_run 1000 (by simp only [go_sem, eRun_exit, Nat.reduceAdd, Nat.reduceLT, Nat.reduceEqDiff, reduceIte, reduceCtorEq, Int.reduceBEq, Int.reduceBNe, Int.reduceLT, Int.reduceLE, Int.reduceGT, Int.reduceGE, Int.reduceEq, Int.reduceAdd, Int.reduceSub, Int.reduceMul, Nat.reduceMul, Nat.reduceSub, Nat.reduceLeDiff, k_ref8_Preds_p6, k_ref8_Preds_p5, f1, f7, f8, f9, f13, hlf, hlt, a0, a1, hvl]; rfl) ?_
      refine WS_call (by simp only [go_sem, eRun_exit, Nat.reduceAdd, Nat.reduceLT, Nat.reduceEqDiff, reduceIte, reduceCtorEq, Int.reduceBEq, Int.reduceBNe, Int.reduceLT, Int.reduceLE, Int.reduceGT, Int.reduceGE, Int.reduceEq, Int.reduceAdd, Int.reduceSub, Int.reduceMul, Nat.reduceMul, Nat.reduceSub, Nat.reduceLeDiff]) (by simp only [go_sem, eRun_exit, Nat.reduceAdd, Nat.reduceLT, Nat.reduceEqDiff, reduceIte, reduceCtorEq, Int.reduceBEq, Int.reduceBNe, Int.reduceLT, Int.reduceLE, Int.reduceGT, Int.reduceGE, Int.reduceEq, Int.reduceAdd, Int.reduceSub, Int.reduceMul, Nat.reduceMul, Nat.reduceSub, Nat.reduceLeDiff]; rfl) ?_
      refine pred_ok C hA hll fun w' nv' wv' S1' S2' v1 v2 v3 => ?_
      have e : rSee (rsees (rsees st0 (rules.flatMap ruleP)) ((facts.take i).flatMap factP)) (r.name, (r.args.length : Int)) = rsees (rsees st0 (rules.flatMap ruleP)) ((facts.take (i + 1)).flatMap factP) := by
        rw [take_snoc_of hrr, List.flatMap_append, rsees_app (rsees st0 (rules.flatMap ruleP))]; rfl
      have v1' : NW aw w' nv' wv' (rSee (rsees (rsees st0 (rules.flatMap ruleP)) ((facts.take i).flatMap factP)) (r.name, (r.args.length : Int))).1 S1' S2' := v1
      rw [e] at v1'
      refine WS_run 1000 (by simp only [go_sem, eRun_exit, Nat.reduceAdd, Nat.reduceLT, Nat.reduceEqDiff, reduceIte, reduceCtorEq, Int.reduceBEq, Int.reduceBNe, Int.reduceLT, Int.reduceLE, Int.reduceGT, Int.reduceGE, Int.reduceEq, Int.reduceAdd, Int.reduceSub, Int.reduceMul, Nat.reduceMul, Nat.reduceSub, Nat.reduceLeDiff, f13, hwr]; rfl) ?_
      refine ih _ _ _ (by omega) ⟨i + 1, nv', wv', S1', S2', ⟨(by simp only [go_sem, eRun_exit, Nat.reduceAdd, Nat.reduceLT, Nat.reduceEqDiff, reduceIte, reduceCtorEq, Int.reduceBEq, Int.reduceBNe, Int.reduceLT, Int.reduceLE, Int.reduceGT, Int.reduceGE, Int.reduceEq, Int.reduceAdd, Int.reduceSub, Int.reduceMul, Nat.reduceMul, Nat.reduceSub, Nat.reduceLeDiff, f0] <;> rfl), (by simp only [go_sem, eRun_exit, Nat.reduceAdd, Nat.reduceLT, Nat.reduceEqDiff, reduceIte, reduceCtorEq, Int.reduceBEq, Int.reduceBNe, Int.reduceLT, Int.reduceLE, Int.reduceGT, Int.reduceGE, Int.reduceEq, Int.reduceAdd, Int.reduceSub, Int.reduceMul, Nat.reduceMul, Nat.reduceSub, Nat.reduceLeDiff, f1] <;> rfl), (by simp only [go_sem, eRun_exit, Nat.reduceAdd, Nat.reduceLT, Nat.reduceEqDiff, reduceIte, reduceCtorEq, Int.reduceBEq, Int.reduceBNe, Int.reduceLT, Int.reduceLE, Int.reduceGT, Int.reduceGE, Int.reduceEq, Int.reduceAdd, Int.reduceSub, Int.reduceMul, Nat.reduceMul, Nat.reduceSub, Nat.reduceLeDiff] <;> rfl), (by simp only [go_sem, eRun_exit, Nat.reduceAdd, Nat.reduceLT, Nat.reduceEqDiff, reduceIte, reduceCtorEq, Int.reduceBEq, Int.reduceBNe, Int.reduceLT, Int.reduceLE, Int.reduceGT, Int.reduceGE, Int.reduceEq, Int.reduceAdd, Int.reduceSub, Int.reduceMul, Nat.reduceMul, Nat.reduceSub, Nat.reduceLeDiff] <;> rfl), ?_⟩, (by simp only [go_sem, eRun_exit, Nat.reduceAdd, Nat.reduceLT, Nat.reduceEqDiff, reduceIte, reduceCtorEq, Int.reduceBEq, Int.reduceBNe, Int.reduceLT, Int.reduceLE, Int.reduceGT, Int.reduceGE, Int.reduceEq, Int.reduceAdd, Int.reduceSub, Int.reduceMul, Nat.reduceMul, Nat.reduceSub, Nat.reduceLeDiff] <;> rfl), by omega, rfl, v1'⟩
      rw [← e]; exact (by simp only [go_sem, eRun_exit, Nat.reduceAdd, Nat.reduceLT, Nat.reduceEqDiff, reduceIte, reduceCtorEq, Int.reduceBEq, Int.reduceBNe, Int.reduceLT, Int.reduceLE, Int.reduceGT, Int.reduceGE, Int.reduceEq, Int.reduceAdd, Int.reduceSub, Int.reduceMul, Nat.reduceMul, Nat.reduceSub, Nat.reduceLeDiff] <;> rfl)
    · rintro f w ⟨nv, wv, S1, S2, ⟨f0, f1, f7, f8, f9⟩, hA⟩
      refine WS_run 1000 (by simp only [go_sem, eRun_exit, Nat.reduceAdd, Nat.reduceLT, Nat.reduceEqDiff, reduceIte, reduceCtorEq, Int.reduceBEq, Int.reduceBNe, Int.reduceLT, Int.reduceLE, Int.reduceGT, Int.reduceGE, Int.reduceEq, Int.reduceAdd, Int.reduceSub, Int.reduceMul, Nat.reduceMul, Nat.reduceSub, Nat.reduceLeDiff, f7, f8, f9]; rfl) ?_
      refine WS_ret ⟨_, by simp only [go_sem, eRun_exit, Nat.reduceAdd, Nat.reduceLT, Nat.reduceEqDiff, reduceIte, reduceCtorEq, Int.reduceBEq, Int.reduceBNe, Int.reduceLT, Int.reduceLE, Int.reduceGT, Int.reduceGE, Int.reduceEq, Int.reduceAdd, Int.reduceSub, Int.reduceMul, Nat.reduceMul, Nat.reduceSub, Nat.reduceLeDiff, k_ref8_Preds]; rfl, ?_⟩
      exact h w nv wv S1 S2 hA
end Go.Proofs.Ytjidefnbancmfaa

/- Defined, twice. -/
set_option linter.unusedVariables false
set_option maxRecDepth 10000
set_option linter.unusedSimpArgs false
namespace Delphi
def cDefined (rules : List Rl) (nm : List Nat) : Prop := ∃ r ∈ rules, r.head.name = nm
instance (rules : List Rl) (nm : List Nat) : Decidable (cDefined rules nm) := List.decidableBEx _ rules
end Delphi
namespace Go.Proofs.Ytjidefnbancmfaa
open Go.AE Delphi
variable {tab : Tab}
def DfI (aw : AW) (rv : V) (nm : List Nat) (rules : List Rl) (q : Nat) (f : Fr) (w : AW) : Prop :=
  ∃ i, f.get 1 = some (.str nm) ∧ f.get 7 = some rv ∧ f.get 8 = some (.int .i64 (Int.ofNat rules.length)) ∧ f.get 9 = some (.int .i64 (Int.ofNat i)) ∧ i ≤ rules.length ∧ q = rules.length - i ∧ (∀ r ∈ rules.take i, r.head.name ≠ nm) ∧ Frm (fun _ => False) aw w
theorem eqL_no {a b : List Nat} (h : a ≠ b) : eqL a b = false := by
  cases hc : eqL a b with
  | false => rfl
  | true => exact absurd (eqL_iff.1 hc) h
theorem defined_ok (C : Codes tab) {T : Nat → Prop} {aw : AW} {rv : V} {rules : List Rl} {nm : List Nat} {K : V → AW → Prop} (hr : RdL (RlC T) T aw rv 4 rules) (hn : rules.length ≤ 1000)
    (h : ∀ w, Frm (fun _ => False) aw w → K (.bool (decide (cDefined rules nm))) w) : WF tab n_check_Defined [rv, .str nm] aw K := by
  refine WF_of C.c_check_Defined rfl ?_
  have hlv := rdL_lenV hr
  refine WS_run 1000 (by simp only [go_sem, eRun_exit, Nat.reduceAdd, Nat.reduceLT, Nat.reduceEqDiff, reduceIte, reduceCtorEq, Int.reduceBEq, Int.reduceBNe, Int.reduceLT, Int.reduceLE, Int.reduceGT, Int.reduceGE, Int.reduceEq, Int.reduceAdd, Int.reduceSub, Int.reduceMul, Nat.reduceMul, Nat.reduceSub, Nat.reduceLeDiff, k_check_Defined, hlv]; rfl) ?_
  refine WS_loopJ (DfI aw rv nm rules) (fun f w => ¬ cDefined rules nm ∧ Frm (fun _ => False) aw w) ?_ ?_ rules.length ⟨0, (by simp only [go_sem, eRun_exit, Nat.reduceAdd, Nat.reduceLT, Nat.reduceEqDiff, reduceIte, reduceCtorEq, Int.reduceBEq, Int.reduceBNe, Int.reduceLT, Int.reduceLE, Int.reduceGT, Int.reduceGE, Int.reduceEq, Int.reduceAdd, Int.reduceSub, Int.reduceMul, Nat.reduceMul, Nat.reduceSub, Nat.reduceLeDiff] <;> rfl), (by simp only [go_sem, eRun_exit, Nat.reduceAdd, Nat.reduceLT, Nat.reduceEqDiff, reduceIte, reduceCtorEq, Int.reduceBEq, Int.reduceBNe, Int.reduceLT, Int.reduceLE, Int.reduceGT, Int.reduceGE, Int.reduceEq, Int.reduceAdd, Int.reduceSub, Int.reduceMul, Nat.reduceMul, Nat.reduceSub, Nat.reduceLeDiff] <;> rfl), (by simp only [go_sem, eRun_exit, Nat.reduceAdd, Nat.reduceLT, Nat.reduceEqDiff, reduceIte, reduceCtorEq, Int.reduceBEq, Int.reduceBNe, Int.reduceLT, Int.reduceLE, Int.reduceGT, Int.reduceGE, Int.reduceEq, Int.reduceAdd, Int.reduceSub, Int.reduceMul, Nat.reduceMul, Nat.reduceSub, Nat.reduceLeDiff] <;> rfl), (by simp only [go_sem, eRun_exit, Nat.reduceAdd, Nat.reduceLT, Nat.reduceEqDiff, reduceIte, reduceCtorEq, Int.reduceBEq, Int.reduceBNe, Int.reduceLT, Int.reduceLE, Int.reduceGT, Int.reduceGE, Int.reduceEq, Int.reduceAdd, Int.reduceSub, Int.reduceMul, Nat.reduceMul, Nat.reduceSub, Nat.reduceLeDiff] <;> rfl), by omega, rfl, by simp, Frm.refl _⟩
  · rintro q f w ⟨i, f1, f7, f8, f9, hi, rfl, hno, hf⟩ ih exit
    by_cases hlt : i < rules.length
    case neg =>
      rw [List.take_of_length_le (by omega)] at hno
      refine WS_runB 1000 (by simp only [go_sem, Nat.reduceAdd, Nat.reduceLT, Nat.reduceEqDiff, reduceIte, reduceCtorEq, Int.reduceBEq, Int.reduceBNe, Int.reduceLT, Int.reduceLE, Int.reduceGT, Int.reduceGE, Int.reduceEq, Int.reduceAdd, Int.reduceSub, Int.reduceMul, Nat.reduceMul, Nat.reduceSub, Nat.reduceLeDiff, k_check_Defined_p3, f8, f9, hlt]; rfl) ?_
      exact exit _ _ _ ⟨fun ⟨r, h1, h2⟩ => hno r h1 h2, hf⟩ rfl
    obtain ⟨r, hrr⟩ : ∃ t, rules[i]? = some t := ⟨_, List.getElem?_eq_getElem hlt⟩
    have hwr : IntKind.wrap .i64 (Int.ofNat i + 1) = Int.ofNat (i + 1) := wrap_succ (by omega)
    obtain ⟨b, o, c, xs, rfl, hxs, a4, _⟩ := rls_at2 hr hf hrr
    have hone := hxs.one
    obtain ⟨v, u, rfl, hv, hu⟩ := hxs
    obtain ⟨w5, s5, c5, r5, n5⟩ := boxed w (zs := [V.int .i64 0, V.str [], V.nilslice, V.nilslice]) (vs := [V.int .i64 (Int.ofNat r.head.kind), .str r.head.name, v, u]) rfl hone.2
    have k1 : w5.load w.next 1 1 = some [.str r.head.name] := by rw [c5.load]; rfl
    by_cases hk : r.head.name = nm
    · have e : eqL r.head.name nm = true := eqL_iff.2 hk
      refine WS_run 1000 (by simp only [go_sem, eRun_exit, Nat.reduceAdd, Nat.reduceLT, Nat.reduceEqDiff, reduceIte, reduceCtorEq, Int.reduceBEq, Int.reduceBNe, Int.reduceLT, Int.reduceLE, Int.reduceGT, Int.reduceGE, Int.reduceEq, Int.reduceAdd, Int.reduceSub, Int.reduceMul, Nat.reduceMul, Nat.reduceSub, Nat.reduceLeDiff, k_check_Defined_p3, k_check_Defined_p2, k_check_Defined_p1, k_check_Defined_p0, f1, f7, f8, f9, hlt, a4, s5, k1, strS, e, List.length_cons, List.length_nil]; rfl) ?_
      refine WS_ret ⟨_, by simp only [go_sem, eRun_exit, Nat.reduceAdd, Nat.reduceLT, Nat.reduceEqDiff, reduceIte, reduceCtorEq, Int.reduceBEq, Int.reduceBNe, Int.reduceLT, Int.reduceLE, Int.reduceGT, Int.reduceGE, Int.reduceEq, Int.reduceAdd, Int.reduceSub, Int.reduceMul, Nat.reduceMul, Nat.reduceSub, Nat.reduceLeDiff, k_check_Defined]; rfl, ?_⟩
      have hd : cDefined rules nm := ⟨r, List.mem_of_getElem? hrr, hk⟩
      have := h w5 (hf.tr r5)
      rw [decide_eq_true hd] at this; exact this
    · have e : eqL r.head.name nm = false := eqL_no hk
      refine WS_run 1000 (by simp only [go_sem, eRun_exit, Nat.reduceAdd, Nat.reduceLT, Nat.reduceEqDiff, reduceIte, reduceCtorEq, Int.reduceBEq, Int.reduceBNe, Int.reduceLT, Int.reduceLE, Int.reduceGT, Int.reduceGE, Int.reduceEq, Int.reduceAdd, Int.reduceSub, Int.reduceMul, Nat.reduceMul, Nat.reduceSub, Nat.reduceLeDiff, k_check_Defined_p3, k_check_Defined_p2, k_check_Defined_p1, f1, f7, f8, f9, hlt, a4, s5, k1, strS, e, hwr, List.length_cons, List.length_nil]; rfl) ?_
      refine ih _ _ _ (by omega) ⟨i + 1, (by simp only [go_sem, eRun_exit, Nat.reduceAdd, Nat.reduceLT, Nat.reduceEqDiff, reduceIte, reduceCtorEq, Int.reduceBEq, Int.reduceBNe, Int.reduceLT, Int.reduceLE, Int.reduceGT, Int.reduceGE, Int.reduceEq, Int.reduceAdd, Int.reduceSub, Int.reduceMul, Nat.reduceMul, Nat.reduceSub, Nat.reduceLeDiff, f1] <;> rfl), (by simp only [go_sem, eRun_exit, Nat.reduceAdd, Nat.reduceLT, Nat.reduceEqDiff, reduceIte, reduceCtorEq, Int.reduceBEq, Int.reduceBNe, Int.reduceLT, Int.reduceLE, Int.reduceGT, Int.reduceGE, Int.reduceEq, Int.reduceAdd, Int.reduceSub, Int.reduceMul, Nat.reduceMul, Nat.reduceSub, Nat.reduceLeDiff, f7] <;> rfl), (by simp only [go_sem, eRun_exit, Nat.reduceAdd, Nat.reduceLT, Nat.reduceEqDiff, reduceIte, reduceCtorEq, Int.reduceBEq, Int.reduceBNe, Int.reduceLT, Int.reduceLE, Int.reduceGT, Int.reduceGE, Int.reduceEq, Int.reduceAdd, Int.reduceSub, Int.reduceMul, Nat.reduceMul, Nat.reduceSub, Nat.reduceLeDiff, f8] <;> rfl), (by simp only [go_sem, eRun_exit, Nat.reduceAdd, Nat.reduceLT, Nat.reduceEqDiff, reduceIte, reduceCtorEq, Int.reduceBEq, Int.reduceBNe, Int.reduceLT, Int.reduceLE, Int.reduceGT, Int.reduceGE, Int.reduceEq, Int.reduceAdd, Int.reduceSub, Int.reduceMul, Nat.reduceMul, Nat.reduceSub, Nat.reduceLeDiff] <;> rfl), by omega, rfl, fun y hy => ?_, hf.tr r5⟩
      rw [take_snoc_of hrr, List.mem_append, List.mem_singleton] at hy
      rcases hy with hy | rfl
      · exact hno y hy
      · exact hk
  · rintro f w ⟨hno, hf⟩
    refine WS_run 1000 (by simp only [go_sem, eRun_exit, Nat.reduceAdd, Nat.reduceLT, Nat.reduceEqDiff, reduceIte, reduceCtorEq, Int.reduceBEq, Int.reduceBNe, Int.reduceLT, Int.reduceLE, Int.reduceGT, Int.reduceGE, Int.reduceEq, Int.reduceAdd, Int.reduceSub, Int.reduceMul, Nat.reduceMul, Nat.reduceSub, Nat.reduceLeDiff]; rfl) ?_
    refine WS_ret ⟨_, by simp only [go_sem, eRun_exit, Nat.reduceAdd, Nat.reduceLT, Nat.reduceEqDiff, reduceIte, reduceCtorEq, Int.reduceBEq, Int.reduceBNe, Int.reduceLT, Int.reduceLE, Int.reduceGT, Int.reduceGE, Int.reduceEq, Int.reduceAdd, Int.reduceSub, Int.reduceMul, Nat.reduceMul, Nat.reduceSub, Nat.reduceLeDiff, k_check_Defined]; rfl, ?_⟩
    have := h w hf
    rw [decide_eq_false hno] at this; exact this
def DrI (aw : AW) (rv : V) (nm : List Nat) (rules : List Rl) (q : Nat) (f : Fr) (w : AW) : Prop :=
  ∃ i, f.get 0 = some rv ∧ f.get 1 = some (.str nm) ∧ f.get 5 = some (.int .i64 (Int.ofNat i)) ∧ i ≤ rules.length ∧ q = rules.length - i ∧ (∀ r ∈ rules.take i, r.head.name ≠ nm) ∧ w = aw
theorem rdefined_ok (C : Codes tab) {T : Nat → Prop} {aw : AW} {rv : V} {rules : List Rl} {nm : List Nat} {K : V → AW → Prop} (hr : RdL (RlC T) T aw rv 4 rules) (hn : rules.length ≤ 1000)
    (h : K (.bool (decide (cDefined rules nm))) aw) : WF tab n_ref8_Defined [rv, .str nm] aw K := by
  refine WF_of C.c_ref8_Defined rfl ?_
  have hlv := rdL_lenV hr
  refine WS_run 1000 (by simp only [go_sem, eRun_exit, Nat.reduceAdd, Nat.reduceLT, Nat.reduceEqDiff, reduceIte, reduceCtorEq, Int.reduceBEq, Int.reduceBNe, Int.reduceLT, Int.reduceLE, Int.reduceGT, Int.reduceGE, Int.reduceEq, Int.reduceAdd, Int.reduceSub, Int.reduceMul, Nat.reduceMul, Nat.reduceSub, Nat.reduceLeDiff, k_ref8_Defined]; rfl) ?_
  refine WS_loopJ (DrI aw rv nm rules) (fun f w => ¬ cDefined rules nm ∧ w = aw) ?_ ?_ rules.length ⟨0, (by simp only [go_sem, eRun_exit, Nat.reduceAdd, Nat.reduceLT, Nat.reduceEqDiff, reduceIte, reduceCtorEq, Int.reduceBEq, Int.reduceBNe, Int.reduceLT, Int.reduceLE, Int.reduceGT, Int.reduceGE, Int.reduceEq, Int.reduceAdd, Int.reduceSub, Int.reduceMul, Nat.reduceMul, Nat.reduceSub, Nat.reduceLeDiff] <;> rfl), (by simp only [go_sem, eRun_exit, Nat.reduceAdd, Nat.reduceLT, Nat.reduceEqDiff, reduceIte, reduceCtorEq, Int.reduceBEq, Int.reduceBNe, Int.reduceLT, Int.reduceLE, Int.reduceGT, Int.reduceGE, Int.reduceEq, Int.reduceAdd, Int.reduceSub, Int.reduceMul, Nat.reduceMul, Nat.reduceSub, Nat.reduceLeDiff] <;> rfl), (by simp only [go_sem, eRun_exit, Nat.reduceAdd, Nat.reduceLT, Nat.reduceEqDiff, reduceIte, reduceCtorEq, Int.reduceBEq, Int.reduceBNe, Int.reduceLT, Int.reduceLE, Int.reduceGT, Int.reduceGE, Int.reduceEq, Int.reduceAdd, Int.reduceSub, Int.reduceMul, Nat.reduceMul, Nat.reduceSub, Nat.reduceLeDiff] <;> rfl), by omega, rfl, by simp, rfl⟩
  · rintro q f w ⟨i, f0, f1, f5, hi, rfl, hno, rfl⟩ ih exit
    by_cases hlt : i < rules.length
    case neg =>
      rw [List.take_of_length_le (by omega)] at hno
      refine WS_runB 1000 (by simp only [go_sem, Nat.reduceAdd, Nat.reduceLT, Nat.reduceEqDiff, reduceIte, reduceCtorEq, Int.reduceBEq, Int.reduceBNe, Int.reduceLT, Int.reduceLE, Int.reduceGT, Int.reduceGE, Int.reduceEq, Int.reduceAdd, Int.reduceSub, Int.reduceMul, Nat.reduceMul, Nat.reduceSub, Nat.reduceLeDiff, k_ref8_Defined_p2, f0, f5, hlv, hlt]; rfl) ?_
      exact exit _ _ _ ⟨fun ⟨r, h1, h2⟩ => hno r h1 h2, rfl⟩ rfl
    obtain ⟨r, hrr⟩ : ∃ t, rules[i]? = some t := ⟨_, List.getElem?_eq_getElem hlt⟩
    have hwr : IntKind.wrap .i64 (Int.ofNat i + 1) = Int.ofNat (i + 1) := wrap_succ (by omega)
    obtain ⟨b, o, c, xs, rfl, _, _, hxs, _, hp⟩ := rls_at hr hrr
    obtain ⟨v, u, rfl, hv, hu⟩ := hxs
    have k1 : w.load b (o + i * 4 + 1) 1 = some [.str r.head.name] := hp 1 1 (by omega)
    have k0 : w.load b (o + i * 4) 3 = some [.int .i64 (Int.ofNat r.head.kind), .str r.head.name, v] := hp 0 3 (by omega)
    by_cases hk : r.head.name = nm
    · have e : eqL r.head.name nm = true := eqL_iff.2 hk
      refine WS_run 1000 (by simp only [go_sem, eRun_exit, Nat.reduceAdd, Nat.reduceLT, Nat.reduceEqDiff, reduceIte, reduceCtorEq, Int.reduceBEq, Int.reduceBNe, Int.reduceLT, Int.reduceLE, Int.reduceGT, Int.reduceGE, Int.reduceEq, Int.reduceAdd, Int.reduceSub, Int.reduceMul, Nat.reduceMul, Nat.reduceSub, Nat.reduceLeDiff, k_ref8_Defined_p2, k_ref8_Defined_p1, k_ref8_Defined_p0, f0, f1, f5, hlv, hlt, k1, strS, e]; rfl) ?_
      refine WS_ret ⟨_, by simp only [go_sem, eRun_exit, Nat.reduceAdd, Nat.reduceLT, Nat.reduceEqDiff, reduceIte, reduceCtorEq, Int.reduceBEq, Int.reduceBNe, Int.reduceLT, Int.reduceLE, Int.reduceGT, Int.reduceGE, Int.reduceEq, Int.reduceAdd, Int.reduceSub, Int.reduceMul, Nat.reduceMul, Nat.reduceSub, Nat.reduceLeDiff, k_ref8_Defined]; rfl, ?_⟩
      have hd : cDefined rules nm := ⟨r, List.mem_of_getElem? hrr, hk⟩
      rw [decide_eq_true hd] at h; exact h
    · have e : eqL r.head.name nm = false := eqL_no hk
      refine WS_run 1000 (by simp only [go_sem, eRun_exit, Nat.reduceAdd, Nat.reduceLT, Nat.reduceEqDiff, reduceIte, reduceCtorEq, Int.reduceBEq, Int.reduceBNe, Int.reduceLT, Int.reduceLE, Int.reduceGT, Int.reduceGE, Int.reduceEq, Int.reduceAdd, Int.reduceSub, Int.reduceMul, Nat.reduceMul, Nat.reduceSub, Nat.reduceLeDiff, k_ref8_Defined_p2, k_ref8_Defined_p1, f0, f1, f5, hlv, hlt, k1, strS, e, hwr]; rfl) ?_
      refine ih _ _ _ (by omega) ⟨i + 1, (by simp only [go_sem, eRun_exit, Nat.reduceAdd, Nat.reduceLT, Nat.reduceEqDiff, reduceIte, reduceCtorEq, Int.reduceBEq, Int.reduceBNe, Int.reduceLT, Int.reduceLE, Int.reduceGT, Int.reduceGE, Int.reduceEq, Int.reduceAdd, Int.reduceSub, Int.reduceMul, Nat.reduceMul, Nat.reduceSub, Nat.reduceLeDiff, f0] <;> rfl), (by simp only [go_sem, eRun_exit, Nat.reduceAdd, Nat.reduceLT, Nat.reduceEqDiff, reduceIte, reduceCtorEq, Int.reduceBEq, Int.reduceBNe, Int.reduceLT, Int.reduceLE, Int.reduceGT, Int.reduceGE, Int.reduceEq, Int.reduceAdd, Int.reduceSub, Int.reduceMul, Nat.reduceMul, Nat.reduceSub, Nat.reduceLeDiff, f1] <;> rfl), (by simp only [go_sem, eRun_exit, Nat.reduceAdd, Nat.reduceLT, Nat.reduceEqDiff, reduceIte, reduceCtorEq, Int.reduceBEq, Int.reduceBNe, Int.reduceLT, Int.reduceLE, Int.reduceGT, Int.reduceGE, Int.reduceEq, Int.reduceAdd, Int.reduceSub, Int.reduceMul, Nat.reduceMul, Nat.reduceSub, Nat.reduceLeDiff] <;> rfl), by omega, rfl, fun y hy => ?_, rfl⟩
      rw [take_snoc_of hrr, List.mem_append, List.mem_singleton] at hy
      rcases hy with hy | rfl
      · exact hno y hy
      · exact hk
  · rintro f w ⟨hno, rfl⟩
    refine WS_run 1000 (by simp only [go_sem, eRun_exit, Nat.reduceAdd, Nat.reduceLT, Nat.reduceEqDiff, reduceIte, reduceCtorEq, Int.reduceBEq, Int.reduceBNe, Int.reduceLT, Int.reduceLE, Int.reduceGT, Int.reduceGE, Int.reduceEq, Int.reduceAdd, Int.reduceSub, Int.reduceMul, Nat.reduceMul, Nat.reduceSub, Nat.reduceLeDiff]; rfl) ?_
    refine WS_ret ⟨_, by simp only [go_sem, eRun_exit, Nat.reduceAdd, Nat.reduceLT, Nat.reduceEqDiff, reduceIte, reduceCtorEq, Int.reduceBEq, Int.reduceBNe, Int.reduceLT, Int.reduceLE, Int.reduceGT, Int.reduceGE, Int.reduceEq, Int.reduceAdd, Int.reduceSub, Int.reduceMul, Nat.reduceMul, Nat.reduceSub, Nat.reduceLeDiff, k_ref8_Defined]; rfl, ?_⟩
    rw [decide_eq_false hno] at h; exact h
end Go.Proofs.Ytjidefnbancmfaa

/- How large a read program is; law 9's Rules. -/
set_option linter.unusedVariables false
set_option maxRecDepth 10000
set_option linter.unusedSimpArgs false
namespace Delphi
theorem rArgs_len {ws : List Wd} : ∀ (n : Nat) (args : List Tm) (k e : Nat), (args.length ≤ 4 ∨ e ≠ 0) → args.length ≤ 5 → (rArgs ws n args k e).1.length ≤ 5
  | 0, args, k, e, _, h => h
  | n + 1, args, k, e, h1, h2 => by
    unfold rArgs
    by_cases he : e = 0
    · rw [if_pos he]
      have h3 : args.length ≤ 4 := h1.resolve_right fun h => h he
      by_cases hs : rSign ws (rTerm ws k e).2.1 [44] = true
      · simp only [if_pos hs]
        refine rArgs_len n _ _ _ ?_ (by rw [List.length_append, List.length_singleton]; omega)
        rw [List.length_append, List.length_singleton]
        by_cases h4 : (rTerm ws k e).2.2 = 0 ∧ args.length = 4
        · rw [if_pos h4]; right; omega
        · rw [if_neg h4]
          by_cases h5 : (rTerm ws k e).2.2 = 0
          · left; have : ¬ args.length = 4 := fun h => h4 ⟨h5, h⟩
            omega
          · exact .inr h5
      · simp only [if_neg hs]
        rw [List.length_append, List.length_singleton]; omega
    · rw [if_neg he]; exact h2
theorem rAtom_args {ws : List Wd} {k e : Nat} : (rAtom ws k e).1.args.length ≤ 5 := by
  unfold rAtom
  split
  · simp [Lt.zero]
  · split
    · split
      · exact rArgs_len _ _ _ _ (.inl (by simp)) (by simp)
      · simp
    · simp [Lt.zero]
theorem rLit_args {ws : List Wd} {k e : Nat} : (rLit ws k e).1.args.length ≤ 5 := by
  unfold rLit
  split
  · exact rAtom_args
  · split
    · exact rAtom_args
    · simp only
      split
      · simp [Lt.zero]
      · simp
theorem rBody_len {ws : List Wd} : ∀ (n : Nat) (l : List Lt) (k e : Nat), (l.length ≤ 6 ∨ e ≠ 0) → l.length ≤ 7 → (∀ x ∈ l, x.args.length ≤ 5) → (rBody ws n l k e).1.length ≤ 7 ∧ ∀ x ∈ (rBody ws n l k e).1, x.args.length ≤ 5
  | 0, l, k, e, _, h, h3 => ⟨h, h3⟩
  | n + 1, l, k, e, h1, h2, h3 => by
    unfold rBody
    have hx : ∀ x ∈ l ++ [(rLit ws k e).1], x.args.length ≤ 5 := by
      intro x hx
      rw [List.mem_append, List.mem_singleton] at hx
      rcases hx with hx | rfl
      · exact h3 x hx
      · exact rLit_args
    by_cases he : e = 0
    · rw [if_pos he]
      have h6 : l.length ≤ 6 := h1.resolve_right fun h => h he
      by_cases hs : rSign ws (rLit ws k e).2.1 [44] = true
      · simp only [if_pos hs]
        refine rBody_len n _ _ _ ?_ (by rw [List.length_append, List.length_singleton]; omega) hx
        rw [List.length_append, List.length_singleton]
        by_cases h4 : (rLit ws k e).2.2 = 0 ∧ l.length = 6
        · rw [if_pos h4]; right; omega
        · rw [if_neg h4]
          by_cases h5 : (rLit ws k e).2.2 = 0
          · left; have : ¬ l.length = 6 := fun h => h4 ⟨h5, h⟩
            omega
          · exact .inr h5
      · simp only [if_neg hs]
        exact ⟨by rw [List.length_append, List.length_singleton]; omega, hx⟩
    · rw [if_neg he]; exact ⟨h2, h3⟩
/-- a read rule's bounds. -/
structure RBr (r : Rl) : Prop where
  head : r.head.args.length ≤ 5
  body : r.body.length ≤ 7
  args : ∀ l ∈ r.body, l.args.length ≤ 5
theorem RBr.big {r : Rl} (h : RBr r) : RBd r := ⟨by have := h.head; omega, by have := h.body; omega, fun l hl => by have := h.args l hl; omega⟩
theorem rClause_bd {ws : List Wd} {k e : Nat} : RBr (rClause ws k e).1 := by
  unfold rClause
  refine ⟨rAtom_args, ?_, ?_⟩
  · simp only
    split
    · exact (rBody_len _ _ _ _ (.inl (by simp)) (by simp) (by simp)).1
    · simp
  · simp only
    split
    · exact (rBody_len _ _ _ _ (.inl (by simp)) (by simp) (by simp)).2
    · simp
theorem rRules_bd {ws : List Wd} : ∀ (n : Nat) (l : List Rl) (k e : Nat), (l.length ≤ 30 ∨ e ≠ 0) → l.length ≤ 31 → (∀ x ∈ l, RBr x) → (rRules ws n l k e).1.length ≤ 31 ∧ ∀ x ∈ (rRules ws n l k e).1, RBr x
  | 0, l, k, e, _, h, h3 => ⟨h, h3⟩
  | n + 1, l, k, e, h1, h2, h3 => by
    unfold rRules
    have hx : ∀ x ∈ l ++ [(rClause ws k e).1], RBr x := by
      intro x hx
      rw [List.mem_append, List.mem_singleton] at hx
      rcases hx with hx | rfl
      · exact h3 x hx
      · exact rClause_bd
    by_cases he : e = 0 ∧ k < ws.length
    · rw [if_pos he]
      have h6 : l.length ≤ 30 := h1.resolve_right fun h => h he.1
      refine rRules_bd n _ _ _ ?_ (by rw [List.length_append, List.length_singleton]; omega) hx
      rw [List.length_append, List.length_singleton]
      by_cases h4 : (rClause ws k e).2.2 = 0 ∧ l.length = 30
      · simp only [if_pos h4]; right; omega
      · simp only [if_neg h4]
        by_cases h5 : (rClause ws k e).2.2 = 0
        · left; have : ¬ l.length = 30 := fun h => h4 ⟨h5, h⟩
          omega
        · exact .inr h5
    · rw [if_neg he]; exact ⟨h2, h3⟩
theorem rProgram_bd (s : List Nat) : (rProgram s).1.length ≤ 31 ∧ ∀ x ∈ (rProgram s).1, RBr x := by
  unfold rProgram
  split
  · simp
  · have hb := rRules_bd (ws := (scan 0 s).1) ((scan 0 s).1.length + 1) [] 0 0 (.inl (by simp)) (by simp) (by simp)
    simp only
    generalize rRules (scan 0 s).1 ((scan 0 s).1.length + 1) [] 0 0 = r at hb ⊢
    generalize rBad r.2.2 (if (scan 0 s).2 = true then 0 else 4) = e
    by_cases he : e = 0
    · rw [if_pos he]; exact hb
    · rw [if_neg he]; simp
end Delphi
namespace Go.Proofs.Ytjidefnbancmfaa
open Go.AE Delphi
variable {tab : Tab}
/-- what is told of a law's beginning. -/
def Begins (tab : Tab) (f : Nat) : Prop := ∀ aw, CallR tab f [] aw (.bool true) aw
theorem begins_ok {f : Nat} (B : Begins tab f) {aw : AW} {K : V → AW → Prop} (h : K (.bool true) aw) : WF tab f [] aw K := ⟨_, _, B aw, h⟩
theorem lcut_ok (C : Codes tab) {s : List Nat} {n : Nat} {aw : AW} {K : V → AW → Prop} (h : K (.str (s.take n)) aw) : WF tab n_law1_Cut [.str s, .int .i64 (Int.ofNat n)] aw K := by
  refine WF_of C.c_law1_Cut rfl ?_
  by_cases hl : n < s.length
  · have h1 : n ≤ s.length := by omega
    refine WS_run 1000 (by simp only [go_sem, eRun_exit, Nat.reduceAdd, Nat.reduceLT, Nat.reduceEqDiff, reduceIte, reduceCtorEq, Int.reduceBEq, Int.reduceBNe, Int.reduceLT, Int.reduceLE, Int.reduceGT, Int.reduceGE, Int.reduceEq, Int.reduceAdd, Int.reduceSub, Int.reduceMul, Nat.reduceMul, Nat.reduceSub, Nat.reduceLeDiff, k_law1_Cut, hl, h1, Nat.zero_le, List.drop_zero, Nat.sub_zero]; rfl) ?_
    refine WS_ret ⟨_, by simp only [go_sem, eRun_exit, Nat.reduceAdd, Nat.reduceLT, Nat.reduceEqDiff, reduceIte, reduceCtorEq, Int.reduceBEq, Int.reduceBNe, Int.reduceLT, Int.reduceLE, Int.reduceGT, Int.reduceGE, Int.reduceEq, Int.reduceAdd, Int.reduceSub, Int.reduceMul, Nat.reduceMul, Nat.reduceSub, Nat.reduceLeDiff, k_law1_Cut]; rfl, ?_⟩
    exact h
  · refine WS_run 1000 (by simp only [go_sem, eRun_exit, Nat.reduceAdd, Nat.reduceLT, Nat.reduceEqDiff, reduceIte, reduceCtorEq, Int.reduceBEq, Int.reduceBNe, Int.reduceLT, Int.reduceLE, Int.reduceGT, Int.reduceGE, Int.reduceEq, Int.reduceAdd, Int.reduceSub, Int.reduceMul, Nat.reduceMul, Nat.reduceSub, Nat.reduceLeDiff, k_law1_Cut, hl]; rfl) ?_
    refine WS_ret ⟨_, by simp only [go_sem, eRun_exit, Nat.reduceAdd, Nat.reduceLT, Nat.reduceEqDiff, reduceIte, reduceCtorEq, Int.reduceBEq, Int.reduceBNe, Int.reduceLT, Int.reduceLE, Int.reduceGT, Int.reduceGE, Int.reduceEq, Int.reduceAdd, Int.reduceSub, Int.reduceMul, Nat.reduceMul, Nat.reduceSub, Nat.reduceLeDiff, k_law1_Cut]; rfl, ?_⟩
    rw [List.take_of_length_le (by omega)] at h
    exact h
/-- Rules. -/
theorem lrules_ok (C : Codes tab) {s : List Nat} {aw : AW} {K : V → AW → Prop} (hb : ∀ x ∈ s, x < 256)
    (h : ∀ w v T rs, rs = (rProgram (s.take 1200)).1 → RdL (RlC T) T w v 4 rs → Frm (fun _ => False) aw w → (∀ x, T x → aw.next ≤ x ∧ x < w.next) → K v w) : WF tab n_law9_Rules [.str s] aw K := by
  refine WF_of C.c_law9_Rules rfl ?_
  refine WS_run 1000 (by simp only [go_sem, eRun_exit, Nat.reduceAdd, Nat.reduceLT, Nat.reduceEqDiff, reduceIte, reduceCtorEq, Int.reduceBEq, Int.reduceBNe, Int.reduceLT, Int.reduceLE, Int.reduceGT, Int.reduceGE, Int.reduceEq, Int.reduceAdd, Int.reduceSub, Int.reduceMul, Nat.reduceMul, Nat.reduceSub, Nat.reduceLeDiff, k_law9_Rules, k_law9_Rules_p0]; rfl) ?_
  refine WS_call (by simp only [go_sem, eRun_exit, Nat.reduceAdd, Nat.reduceLT, Nat.reduceEqDiff, reduceIte, reduceCtorEq, Int.reduceBEq, Int.reduceBNe, Int.reduceLT, Int.reduceLE, Int.reduceGT, Int.reduceGE, Int.reduceEq, Int.reduceAdd, Int.reduceSub, Int.reduceMul, Nat.reduceMul, Nat.reduceSub, Nat.reduceLeDiff]) (by simp only [go_sem, eRun_exit, Nat.reduceAdd, Nat.reduceLT, Nat.reduceEqDiff, reduceIte, reduceCtorEq, Int.reduceBEq, Int.reduceBNe, Int.reduceLT, Int.reduceLE, Int.reduceGT, Int.reduceGE, Int.reduceEq, Int.reduceAdd, Int.reduceSub, Int.reduceMul, Nat.reduceMul, Nat.reduceSub, Nat.reduceLeDiff]; rfl) ?_
  refine lcut_ok C (n := 1200) ?_
  refine WS_run 1000 (by simp only [go_sem, eRun_exit, Nat.reduceAdd, Nat.reduceLT, Nat.reduceEqDiff, reduceIte, reduceCtorEq, Int.reduceBEq, Int.reduceBNe, Int.reduceLT, Int.reduceLE, Int.reduceGT, Int.reduceGE, Int.reduceEq, Int.reduceAdd, Int.reduceSub, Int.reduceMul, Nat.reduceMul, Nat.reduceSub, Nat.reduceLeDiff]; rfl) ?_
  refine WS_call (by simp only [go_sem, eRun_exit, Nat.reduceAdd, Nat.reduceLT, Nat.reduceEqDiff, reduceIte, reduceCtorEq, Int.reduceBEq, Int.reduceBNe, Int.reduceLT, Int.reduceLE, Int.reduceGT, Int.reduceGE, Int.reduceEq, Int.reduceAdd, Int.reduceSub, Int.reduceMul, Nat.reduceMul, Nat.reduceSub, Nat.reduceLeDiff]) (by simp only [go_sem, eRun_exit, Nat.reduceAdd, Nat.reduceLT, Nat.reduceEqDiff, reduceIte, reduceCtorEq, Int.reduceBEq, Int.reduceBNe, Int.reduceLT, Int.reduceLE, Int.reduceGT, Int.reduceGE, Int.reduceEq, Int.reduceAdd, Int.reduceSub, Int.reduceMul, Nat.reduceMul, Nat.reduceSub, Nat.reduceLeDiff]; rfl) ?_
  refine rprogram_ok C (by rw [List.length_take]; omega) (fun x hx => hb x (List.mem_of_mem_take hx)) fun w v T h1 h2 h3 => ?_
  refine WS_run 1000 (by simp only [go_sem, eRun_exit, Nat.reduceAdd, Nat.reduceLT, Nat.reduceEqDiff, reduceIte, reduceCtorEq, Int.reduceBEq, Int.reduceBNe, Int.reduceLT, Int.reduceLE, Int.reduceGT, Int.reduceGE, Int.reduceEq, Int.reduceAdd, Int.reduceSub, Int.reduceMul, Nat.reduceMul, Nat.reduceSub, Nat.reduceLeDiff]; rfl) ?_
  refine WS_ret ⟨_, by simp only [go_sem, eRun_exit, Nat.reduceAdd, Nat.reduceLT, Nat.reduceEqDiff, reduceIte, reduceCtorEq, Int.reduceBEq, Int.reduceBNe, Int.reduceLT, Int.reduceLE, Int.reduceGT, Int.reduceGE, Int.reduceEq, Int.reduceAdd, Int.reduceSub, Int.reduceMul, Nat.reduceMul, Nat.reduceSub, Nat.reduceLeDiff, k_law9_Rules]; rfl, ?_⟩
  exact h w v T _ rfl h1 h2 h3
end Go.Proofs.Ytjidefnbancmfaa
