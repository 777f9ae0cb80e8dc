/- A part of the proof: PPln6, PPln7, PPln8, PPln9, PPln10, PPln11, PPln12. -/
import Derived.Test.YtjidefnbancmfaaKpL
/- Plans: the reference's Plan. -/
set_option linter.unusedVariables false
set_option maxRecDepth 10000
set_option linter.unusedSimpArgs false
namespace Delphi
def startP (body : List Lt) (first : Int) : PlSt := if 0 ≤ first then takeP body ([], []) first.toNat else ([], [])
def planP (r : Rl) (first : Int) : PlSt := planRun r.body (r.body.length - (startP r.body first).1.length) (startP r.body first)
def okPl (r : Rl) (first : Int) : Prop := cSafe r = true ∧ -1 ≤ first ∧ first < r.body.length ∧ (0 ≤ first → (litAt r.body first.toNat).kind = 1)
theorem startP_inv {r : Rl} {first : Int} (hbd : RBr r) (h : okPl r first) : PlInv r.body (startP r.body first) := by
  unfold startP
  split
  · exact (PlInv.nil r.body).take (by have := h.2.2.1; omega) hbd.args
  · exact PlInv.nil r.body
theorem startP_len (body : List Lt) (first : Int) : (startP body first).1.length ≤ 1 := by
  unfold startP
  split <;> simp [takeP]
theorem planRun_len {body : List Lt} : ∀ (n : Nat) (s : PlSt), s.1.length ≤ body.length → (planRun body n s).1.length ≤ body.length
  | 0, s, h => h
  | n + 1, s, h => by
    unfold planRun
    by_cases hl : s.1.length < body.length
    · rw [if_pos hl]
      split
      · exact planRun_len n _ (by simp only [takeP, List.length_append, List.length_singleton]; omega)
      · exact h
    · rw [if_neg hl]; exact h
theorem planRun_inv {body : List Lt} (ha : ∀ x ∈ body, x.args.length ≤ 5) : ∀ (n : Nat) (s : PlSt), PlInv body s → PlInv body (planRun body n s)
  | 0, s, h => h
  | n + 1, s, h => by
    unfold planRun
    split
    · split
      · rename_i i hi
        refine planRun_inv ha n _ (h.take ?_ ha)
        have := List.mem_of_find?_eq_some hi
        exact List.mem_range.1 this
      · exact h
    · exact h
end Delphi
namespace Go.Proofs.Ytjidefnbancmfaa
open Go.AE Delphi
variable {tab : Tab}
/-- one is taken: the first. -/
theorem p2_ok (C : Codes tab) {a w : AW} {T : Nat → Prop} {r : Rl} {hv u : V} {n2 b9 i : Nat} {s : PlSt} {ov bv : V} {So Sb : Nat → Prop} {f : Fr} {st : List SI} {Q : Fr → AW → Prop} (hbd : RBr r) (hol : s.1.length ≤ 100)
    (hF : PrF f n2 b9 r.body.length ov bv) (f1 : f.get 1 = some (.int .i64 (Int.ofNat i))) (hA : PrS a w T r hv u n2 b9 s ov bv So Sb) (hi : i < r.body.length)
    (h : ∀ f' w' ov' bv' So' Sb', PrF f' n2 b9 r.body.length ov' bv' → PrS a w' T r hv u n2 b9 (takeP r.body s i) ov' bv' So' Sb' → WS tab st f' w' Q) : WS tab (.code k_ref8_Plan_p2 :: st) f w Q := by
  obtain ⟨f2, f7, f8, f9⟩ := hF
  obtain ⟨t, ht⟩ : ∃ t, r.body[i]? = some t := ⟨_, List.getElem?_eq_getElem hi⟩
  have hla : litAt r.body i = t := litAt_some ht
  have hargs := hbd.args t (List.mem_of_getElem? ht)
  have sl := hA.inv.len
  obtain ⟨ov', w5, w6, S5, u1, u2, hM, n6⟩ := hA.m.take1 hi hol
  have el := elems_fresh (w := w) (esz := 1) (n := 1) (cs := [V.int .i64 (Int.ofNat i)]) (c := .known 1) (by omega) rfl
  have hov : over [V.int .i64 0] 0 [V.int .i64 (Int.ofNat i)] = some [V.int .i64 (Int.ofNat i)] := rfl
  have ld3 : w6.load n2 3 1 = some [u] := by rw [hM.rule.load]; rfl
  obtain ⟨b, o, c, v, rfl, a3, hrv⟩ := hM.lit ht
  refine WS_run 1000 (by simp only [go_sem, eRun_exit, Nat.reduceAdd, Nat.reduceLT, Nat.reduceEqDiff, reduceIte, reduceCtorEq, Int.reduceLT, Int.reduceBEq, Int.reduceGE, Int.reduceEq, Int.reduceAdd, Nat.reduceLeDiff, k_ref8_Plan_p2, k_ref8_Plan_p1, f1, f2, f7, f8, f9, hi, evParts, fillV, hov, el, u1, u2, ld3, a3, Nat.mul_one, Nat.zero_add, List.length_cons, List.length_nil]; rfl) ?_
  refine WS_call (by simp only [go_sem, eRun_exit, Nat.reduceAdd, Nat.reduceLT, Nat.reduceEqDiff, reduceIte, reduceCtorEq, Int.reduceLT, Int.reduceBEq, Int.reduceGE, Int.reduceEq, Int.reduceAdd, Nat.reduceLeDiff]) (by simp only [go_sem, eRun_exit, Nat.reduceAdd, Nat.reduceLT, Nat.reduceEqDiff, reduceIte, reduceCtorEq, Int.reduceLT, Int.reduceBEq, Int.reduceGE, Int.reduceEq, Int.reduceAdd, Nat.reduceLeDiff]; rfl) ?_
  refine rvars_ok C (x := t) ⟨v, rfl, hrv⟩ hM.bnd.rd (by omega) (by omega) fun w7 vv Sv h1 h2 h3 => ?_
  have hM7 := hM.ext h2
  have hel := h1.rd.elems
  have nl := newV_len s.2 t
  obtain ⟨bv', w8, S8, q1, q2⟩ := hM7.take2 (new := newV s.2 t) rfl (by omega) (by omega)
  refine WS_runB 3 (by simp only [go_sem, eRun_exit, Nat.reduceAdd, Nat.reduceLT, Nat.reduceEqDiff, reduceIte, reduceCtorEq, Int.reduceLT, Int.reduceBEq, Int.reduceGE, Int.reduceEq, Int.reduceAdd, Nat.reduceLeDiff, f8, hel, q1]; rfl) ?_
  refine h _ _ ov' bv' S5 S8 ⟨(by simp only [go_sem, eRun_exit, Nat.reduceAdd, Nat.reduceLT, Nat.reduceEqDiff, reduceIte, reduceCtorEq, Int.reduceLT, Int.reduceBEq, Int.reduceGE, Int.reduceEq, Int.reduceAdd, Nat.reduceLeDiff, f2] <;> rfl), (by simp only [go_sem, eRun_exit, Nat.reduceAdd, Nat.reduceLT, Nat.reduceEqDiff, reduceIte, reduceCtorEq, Int.reduceLT, Int.reduceBEq, Int.reduceGE, Int.reduceEq, Int.reduceAdd, Nat.reduceLeDiff] <;> rfl), (by simp only [go_sem, eRun_exit, Nat.reduceAdd, Nat.reduceLT, Nat.reduceEqDiff, reduceIte, reduceCtorEq, Int.reduceLT, Int.reduceBEq, Int.reduceGE, Int.reduceEq, Int.reduceAdd, Nat.reduceLeDiff] <;> rfl), (by simp only [go_sem, eRun_exit, Nat.reduceAdd, Nat.reduceLT, Nat.reduceEqDiff, reduceIte, reduceCtorEq, Int.reduceLT, Int.reduceBEq, Int.reduceGE, Int.reduceEq, Int.reduceAdd, Nat.reduceLeDiff, f9] <;> rfl)⟩ (PrM.s (s := takeP r.body s i) ?_ (hA.inv.take hi hbd.args))
  rw [← hla] at q2
  exact q2
def RpI (a : AW) (T : Nat → Prop) (r : Rl) (hv u : V) (n2 b9 : Nat) (fin : PlSt) (q : Nat) (f : Fr) (w : AW) : Prop :=
  ∃ s ov bv So Sb, PrF f n2 b9 r.body.length ov bv ∧ PrS a w T r hv u n2 b9 s ov bv So Sb ∧ s.1.length ≤ r.body.length ∧ q = r.body.length - s.1.length ∧ planRun r.body q s = fin
def RpJ (a : AW) (T : Nat → Prop) (r : Rl) (hv u : V) (n2 b9 : Nat) (fin : PlSt) (f : Fr) (w : AW) : Prop :=
  ∃ ov bv So Sb, PrF f n2 b9 r.body.length ov bv ∧ PrS a w T r hv u n2 b9 fin ov bv So Sb
theorem rp_step (C : Codes tab) {a w : AW} {T : Nat → Prop} {r : Rl} {hv u : V} {n2 b9 : Nat} {fin : PlSt} {q : Nat} {f : Fr} {st : List SI} {Q : Fr → AW → Prop} (hbd : RBr r) (hs : cSafe r = true)
    (hI : RpI a T r hv u n2 b9 fin q f w) (ih : ∀ n' f' w', n' < q → RpI a T r hv u n2 b9 fin n' f' w' → WS tab (.code (.loop k_ref8_Plan_p17) :: .endB 0 :: st) f' w' Q)
    (out : ∀ s' f' w', RpJ a T r hv u n2 b9 fin f' w' → popTo 0 s' = some st → WS tab (.code (.exit 0) :: s') f' w' Q) : WS tab (.code k_ref8_Plan_p17 :: .code (.loop k_ref8_Plan_p17) :: .endB 0 :: st) f w Q := by
  obtain ⟨s, ov, bv, So, Sb, ⟨f2, f7, f8, f9⟩, hA, hsl, rfl, hfin⟩ := hI
  have hlv := rdL_lenV hA.lits
  have hlo := hA.ord.lenV
  have ld3 : w.load n2 3 1 = some [u] := by rw [hA.rule.load]; rfl
  have hbl := hbd.body
  by_cases hlt : s.1.length < r.body.length
  case neg =>
    have e : r.body.length - s.1.length = 0 := by omega
    rw [e] at hfin
    have hfin : s = fin := hfin
    subst hfin
    refine WS_runB 1000 (by simp only [go_sem, Nat.reduceAdd, Nat.reduceLT, Nat.reduceEqDiff, reduceIte, reduceCtorEq, Int.reduceLT, Int.reduceBEq, Int.reduceGE, Int.reduceEq, Int.reduceAdd, Nat.reduceLeDiff, k_ref8_Plan_p17, f2, f7, ld3, hlv, hlo, hlt]; rfl) ?_
    exact out _ _ _ ⟨ov, bv, So, Sb, ⟨(by simp only [go_sem, eRun_exit, Nat.reduceAdd, Nat.reduceLT, Nat.reduceEqDiff, reduceIte, reduceCtorEq, Int.reduceLT, Int.reduceBEq, Int.reduceGE, Int.reduceEq, Int.reduceAdd, Nat.reduceLeDiff, f2] <;> rfl), (by simp only [go_sem, eRun_exit, Nat.reduceAdd, Nat.reduceLT, Nat.reduceEqDiff, reduceIte, reduceCtorEq, Int.reduceLT, Int.reduceBEq, Int.reduceGE, Int.reduceEq, Int.reduceAdd, Nat.reduceLeDiff, f7] <;> rfl), (by simp only [go_sem, eRun_exit, Nat.reduceAdd, Nat.reduceLT, Nat.reduceEqDiff, reduceIte, reduceCtorEq, Int.reduceLT, Int.reduceBEq, Int.reduceGE, Int.reduceEq, Int.reduceAdd, Nat.reduceLeDiff, f8] <;> rfl), (by simp only [go_sem, eRun_exit, Nat.reduceAdd, Nat.reduceLT, Nat.reduceEqDiff, reduceIte, reduceCtorEq, Int.reduceLT, Int.reduceBEq, Int.reduceGE, Int.reduceEq, Int.reduceAdd, Nat.reduceLeDiff, f9] <;> rfl)⟩, hA⟩ rfl
  obtain ⟨q, hq⟩ : ∃ q, r.body.length - s.1.length = q + 1 := ⟨r.body.length - s.1.length - 1, by omega⟩
  rw [hq] at hfin
  refine WS_run 1000 (by simp only [go_sem, eRun_exit, Nat.reduceAdd, Nat.reduceLT, Nat.reduceEqDiff, reduceIte, reduceCtorEq, Int.reduceLT, Int.reduceBEq, Int.reduceGE, Int.reduceEq, Int.reduceAdd, Nat.reduceLeDiff, k_ref8_Plan_p17, k_ref8_Plan_p16, f2, f7, ld3, hlv, hlo, hlt]; rfl) ?_
  refine WS_loopJ (F1I a T r hv u n2 b9 s ov bv So Sb) (F1J a T r hv u n2 b9 s ov bv So Sb) (fun q f w hI ih out => f1_step C hbd (by omega) hI ih out) ?_ r.body.length
    ⟨0, ⟨(by simp only [go_sem, eRun_exit, Nat.reduceAdd, Nat.reduceLT, Nat.reduceEqDiff, reduceIte, reduceCtorEq, Int.reduceLT, Int.reduceBEq, Int.reduceGE, Int.reduceEq, Int.reduceAdd, Nat.reduceLeDiff, f2] <;> rfl), (by simp only [go_sem, eRun_exit, Nat.reduceAdd, Nat.reduceLT, Nat.reduceEqDiff, reduceIte, reduceCtorEq, Int.reduceLT, Int.reduceBEq, Int.reduceGE, Int.reduceEq, Int.reduceAdd, Nat.reduceLeDiff, f7] <;> rfl), (by simp only [go_sem, eRun_exit, Nat.reduceAdd, Nat.reduceLT, Nat.reduceEqDiff, reduceIte, reduceCtorEq, Int.reduceLT, Int.reduceBEq, Int.reduceGE, Int.reduceEq, Int.reduceAdd, Nat.reduceLeDiff, f8] <;> rfl), (by simp only [go_sem, eRun_exit, Nat.reduceAdd, Nat.reduceLT, Nat.reduceEqDiff, reduceIte, reduceCtorEq, Int.reduceLT, Int.reduceBEq, Int.reduceGE, Int.reduceEq, Int.reduceAdd, Nat.reduceLeDiff, f9] <;> rfl)⟩, (by simp only [go_sem, eRun_exit, Nat.reduceAdd, Nat.reduceLT, Nat.reduceEqDiff, reduceIte, reduceCtorEq, Int.reduceLT, Int.reduceBEq, Int.reduceGE, Int.reduceEq, Int.reduceAdd, Nat.reduceLeDiff] <;> rfl), by omega, rfl, hA, .inl ⟨(by simp only [go_sem, eRun_exit, Nat.reduceAdd, Nat.reduceLT, Nat.reduceEqDiff, reduceIte, reduceCtorEq, Int.reduceLT, Int.reduceBEq, Int.reduceGE, Int.reduceEq, Int.reduceAdd, Nat.reduceLeDiff] <;> rfl), (by simp only [go_sem, eRun_exit, Nat.reduceAdd, Nat.reduceLT, Nat.reduceEqDiff, reduceIte, reduceCtorEq, Int.reduceLT, Int.reduceBEq, Int.reduceGE, Int.reduceEq, Int.reduceAdd, Nat.reduceLeDiff] <;> rfl), fun j hj => by omega⟩, fun j hj => by omega⟩
  rintro f w ⟨⟨f2, f7, f8, f9⟩, hA, ⟨x10, f10⟩, hB⟩
  have hex := exists_cand hs hA.inv hlt
  refine WS_run 1000 (by simp only [go_sem, eRun_exit, Nat.reduceAdd, Nat.reduceLT, Nat.reduceEqDiff, reduceIte, reduceCtorEq, Int.reduceLT, Int.reduceBEq, Int.reduceGE, Int.reduceEq, Int.reduceAdd, Nat.reduceLeDiff]; rfl) ?_
  refine WS_loopJ (F2I a T r hv u n2 b9 s ov bv So Sb) (F2J a T r hv u n2 b9 s ov bv So Sb) (fun q f w hI ih out => f2_step C hbd (by omega) hI ih out) ?_ r.body.length
    ⟨0, x10, ⟨(by simp only [go_sem, eRun_exit, Nat.reduceAdd, Nat.reduceLT, Nat.reduceEqDiff, reduceIte, reduceCtorEq, Int.reduceLT, Int.reduceBEq, Int.reduceGE, Int.reduceEq, Int.reduceAdd, Nat.reduceLeDiff, f2] <;> rfl), (by simp only [go_sem, eRun_exit, Nat.reduceAdd, Nat.reduceLT, Nat.reduceEqDiff, reduceIte, reduceCtorEq, Int.reduceLT, Int.reduceBEq, Int.reduceGE, Int.reduceEq, Int.reduceAdd, Nat.reduceLeDiff, f7] <;> rfl), (by simp only [go_sem, eRun_exit, Nat.reduceAdd, Nat.reduceLT, Nat.reduceEqDiff, reduceIte, reduceCtorEq, Int.reduceLT, Int.reduceBEq, Int.reduceGE, Int.reduceEq, Int.reduceAdd, Nat.reduceLeDiff, f8] <;> rfl), (by simp only [go_sem, eRun_exit, Nat.reduceAdd, Nat.reduceLT, Nat.reduceEqDiff, reduceIte, reduceCtorEq, Int.reduceLT, Int.reduceBEq, Int.reduceGE, Int.reduceEq, Int.reduceAdd, Nat.reduceLeDiff, f9] <;> rfl)⟩, (by simp only [go_sem, eRun_exit, Nat.reduceAdd, Nat.reduceLT, Nat.reduceEqDiff, reduceIte, reduceCtorEq, Int.reduceLT, Int.reduceBEq, Int.reduceGE, Int.reduceEq, Int.reduceAdd, Nat.reduceLeDiff, f10] <;> rfl), (by simp only [go_sem, eRun_exit, Nat.reduceAdd, Nat.reduceLT, Nat.reduceEqDiff, reduceIte, reduceCtorEq, Int.reduceLT, Int.reduceBEq, Int.reduceGE, Int.reduceEq, Int.reduceAdd, Nat.reduceLeDiff] <;> rfl), by omega, rfl, hA, ?_, fun j hj => by omega⟩
  · rintro f w ⟨hF, hA, b, f10, hb⟩
    have hbf := best_find hb
    simp only [planRun, if_pos hlt, hbf] at hfin
    refine p15_ok C hbd (by omega) hF f10 hA (candB_lt hb.1) fun f' w' ov' bv' So' Sb' hF' hA' => ?_
    have hF2 := hF'.f2
    refine WS_runB 1 (by simp only [go_sem, eRun_exit, Nat.reduceAdd, Nat.reduceLT, Nat.reduceEqDiff, reduceIte, reduceCtorEq, Int.reduceLT, Int.reduceBEq, Int.reduceGE, Int.reduceEq, Int.reduceAdd, Nat.reduceLeDiff]; rfl) ?_
    have el : (takeP r.body s b).1.length = s.1.length + 1 := by simp [takeP]
    have hq2 : q = r.body.length - (takeP r.body s b).1.length := by rw [el]; clear hex hB; omega
    have hq3 : (takeP r.body s b).1.length ≤ r.body.length := by rw [el]; clear hex hB; omega
    exact ih q _ _ (by clear hex hB; omega) ⟨takeP r.body s b, ov', bv', So', Sb', hF', hA', hq3, hq2, hfin⟩
  · rcases hB with h | h | ⟨b, hb, hbest⟩
    · exact .inl h
    · obtain ⟨i, hi⟩ := hex
      rw [h i] at hi; cases hi
    · rw [f10] at hb; cases hb
      exact .inr ⟨b, rfl, hbest⟩
/-- Plan. -/
theorem rplan_ok (C : Codes tab) {T : Nat → Prop} {a : AW} {xs : List V} {r : Rl} {first : Int} {K : V → AW → Prop} (hr : RlC T a r xs) (hbd : RBr r)
    (h1 : ∀ w, ¬ okPl r first → Frm (fun _ => False) a w → K (.tuple [.nilslice, .nilslice, .bool false]) w)
    (h2 : ∀ w ov bv So Sb, okPl r first → Bt So w ov 1 (planP r first).1.length (natsC (planP r first).1) → Bt Sb w bv 1 (planP r first).2.length (strsC (planP r first).2) → Frm (fun _ => False) a w → (∀ x, So x ∨ Sb x → a.next ≤ x ∧ x < w.next) → K (.tuple [ov, bv, .bool true]) w) :
    WF tab n_ref8_Plan [.agg xs, .int .i64 first] a K := by
  refine WF_of C.c_ref8_Plan rfl ?_
  have hone := hr.one
  have hr0 := hr
  obtain ⟨hv, u, rfl, hh, hu⟩ := hr
  have cb := fresh_cb a [V.int .i64 (Int.ofNat r.head.kind), .str r.head.name, hv, u]
  have ff := fresh_frm (S := fun _ => False) a [V.int .i64 (Int.ofNat r.head.kind), .str r.head.name, hv, u]
  have m1 : (a.fresh [V.int .i64 (Int.ofNat r.head.kind), .str r.head.name, hv, u]).next = a.next + 1 := rfl
  generalize hw1 : a.fresh [V.int .i64 (Int.ofNat r.head.kind), .str r.head.name, hv, u] = w1 at cb ff m1
  have ld0 : w1.load a.next 0 4 = some [V.int .i64 (Int.ofNat r.head.kind), .str r.head.name, hv, u] := cb.all rfl
  have hlv := rdL_lenV hu
  have hbl := hbd.body
  refine WS_run 1000 (by simp only [go_sem, eRun_exit, Nat.reduceAdd, Nat.reduceLT, Nat.reduceEqDiff, reduceIte, reduceCtorEq, Int.reduceLT, Int.reduceBEq, Int.reduceGE, Int.reduceEq, Int.reduceAdd, Nat.reduceLeDiff, k_ref8_Plan, k_ref8_Plan_p20, hw1, ld0]; rfl) ?_
  refine WS_call (by simp only [go_sem, eRun_exit, Nat.reduceAdd, Nat.reduceLT, Nat.reduceEqDiff, reduceIte, reduceCtorEq, Int.reduceLT, Int.reduceBEq, Int.reduceGE, Int.reduceEq, Int.reduceAdd, Nat.reduceLeDiff]) (by simp only [go_sem, eRun_exit, Nat.reduceAdd, Nat.reduceLT, Nat.reduceEqDiff, reduceIte, reduceCtorEq, Int.reduceLT, Int.reduceBEq, Int.reduceGE, Int.reduceEq, Int.reduceAdd, Nat.reduceLeDiff]; rfl) ?_
  refine rsafe_ok C (hr0.frm ff fun _ _ h => h) hbd.big fun w2 g2 => ?_
  have hf2 := ff.tr g2
  have cb2 := cb.frm g2 fun h => h
  have ld3 : w2.load a.next 3 1 = some [u] := by rw [cb2.load]; rfl
  have zb : (List.replicate r.body.length [V.bool false]).flatten = doneC r.body.length [] := by
    have : ∀ n k, (List.replicate n [V.bool false]).flatten = (List.range' k n).map fun i => V.bool (decide (i ∈ ([] : List Nat))) := by
      intro n
      induction n with
      | zero => intro k; rfl
      | succ n ih => intro k; rw [List.replicate_succ, List.flatten_cons, ih (k + 1)]; rfl
    rw [this _ 0, doneC, List.range_eq_range']
  have c1 : r.body.length ≤ 70368744177664 := by omega
  have c2 : r.body.length * 1 ≤ 70368744177664 := by omega
  have cbd := fresh_cb w2 (doneC r.body.length [])
  have g3 := fresh_frm (S := fun _ => False) w2 (doneC r.body.length [])
  have m3 : (w2.fresh (doneC r.body.length [])).next = w2.next + 1 := rfl
  have m2 := g2.next
  generalize hw3 : w2.fresh (doneC r.body.length []) = w3 at cbd g3 m3
  have hA : PrS a w3 T r hv u a.next w2.next ([], []) .nilslice .nilslice (fun _ => False) (fun _ => False) :=
    ⟨hf2.tr g3, hu, cb2.frm g3 fun h => h, .nil, .nil, cbd, by omega, fun _ h => h.elim, fun _ h => h.elim, PlInv.nil _⟩
  -- the rest
  have loop : ∀ {fr : Fr} {w : AW} {ov bv : V} {So Sb : Nat → Prop}, okPl r first → PrF fr a.next w2.next r.body.length ov bv → PrS a w T r hv u a.next w2.next (startP r.body first) ov bv So Sb →
      WS tab (.code (.loop k_ref8_Plan_p17) :: .endB 0 :: [.code (.seq (.region [⟨some 155, none, .mov (.tmp 7)⟩, ⟨some 156, none, .mov (.tmp 8)⟩, ⟨some 4, none, .mov (.tmp 155)⟩, ⟨some 5, none, .mov (.tmp 156)⟩, ⟨some 6, none, .mov (.const (.bool true))⟩]) .ret)]) fr w fun fr' a => ∃ vs, resV fr' a k_ref8_Plan.results = some vs ∧ K (resOne vs) a := by
    intro fr w ov bv So Sb hok hF hA
    have hsl := startP_len r.body first
    refine WS_loopJ (RpI a T r hv u a.next w2.next (planP r first)) (RpJ a T r hv u a.next w2.next (planP r first)) (fun q f w hI ih out => rp_step C hbd hok.1 hI ih out) ?_ (r.body.length - (startP r.body first).1.length)
      ⟨_, ov, bv, So, Sb, hF, hA, ?_, rfl, rfl⟩
    · rintro f w ⟨ov, bv, So, Sb, ⟨f2, f7, f8, f9⟩, hA⟩
      refine WS_run 1000 (by simp only [go_sem, eRun_exit, Nat.reduceAdd, Nat.reduceLT, Nat.reduceEqDiff, reduceIte, reduceCtorEq, Int.reduceLT, Int.reduceBEq, Int.reduceGE, Int.reduceEq, Int.reduceAdd, Nat.reduceLeDiff, f7, f8]; rfl) ?_
      refine WS_ret ⟨_, by simp only [go_sem, eRun_exit, Nat.reduceAdd, Nat.reduceLT, Nat.reduceEqDiff, reduceIte, reduceCtorEq, Int.reduceLT, Int.reduceBEq, Int.reduceGE, Int.reduceEq, Int.reduceAdd, Nat.reduceLeDiff, k_ref8_Plan]; rfl, ?_⟩
      exact h2 w ov bv So Sb hok hA.ord hA.bnd hA.frm fun x hx => hx.elim (fun h => ⟨(hA.sepO x h).1, (hA.sepO x h).2.1⟩) fun h => ⟨(hA.sepB x h).1, (hA.sepB x h).2.1⟩
    · by_cases h0 : 0 ≤ first
      · have := hok.2.2.1; omega
      · simp [startP, h0]
  cases hs : cSafe r with
  | false =>
    have hno : ¬ okPl r first := fun h => by have h := h.1; rw [hs] at h; cases h
    refine WS_run 1000 (by simp only [go_sem, eRun_exit, Nat.reduceAdd, Nat.reduceLT, Nat.reduceEqDiff, reduceIte, reduceCtorEq, Int.reduceLT, Int.reduceBEq, Int.reduceGE, Int.reduceEq, Int.reduceAdd, Nat.reduceLeDiff, k_ref8_Plan_p0]; rfl) ?_
    refine WS_ret ⟨_, by simp only [go_sem, eRun_exit, Nat.reduceAdd, Nat.reduceLT, Nat.reduceEqDiff, reduceIte, reduceCtorEq, Int.reduceLT, Int.reduceBEq, Int.reduceGE, Int.reduceEq, Int.reduceAdd, Nat.reduceLeDiff, k_ref8_Plan]; rfl, ?_⟩
    exact h1 w2 hno hf2
  | true =>
    by_cases hl : first < -1
    · have hno : ¬ okPl r first := fun h => by have := h.2.1; omega
      have d1 : decide (first < (-1 : Int)) = true := decide_eq_true hl
      refine WS_run 1000 (by simp only [go_sem, eRun_exit, Nat.reduceAdd, Nat.reduceLT, Nat.reduceEqDiff, reduceIte, reduceCtorEq, Int.reduceLT, Int.reduceBEq, Int.reduceGE, Int.reduceEq, Int.reduceAdd, Nat.reduceLeDiff, k_ref8_Plan_p0, d1]; rfl) ?_
      refine WS_ret ⟨_, by simp only [go_sem, eRun_exit, Nat.reduceAdd, Nat.reduceLT, Nat.reduceEqDiff, reduceIte, reduceCtorEq, Int.reduceLT, Int.reduceBEq, Int.reduceGE, Int.reduceEq, Int.reduceAdd, Nat.reduceLeDiff, k_ref8_Plan]; rfl, ?_⟩
      exact h1 w2 hno hf2
    have d1 : decide (first < (-1 : Int)) = false := decide_eq_false hl
    by_cases hg : first < 0
    · have e : first = -1 := by omega
      subst e
      have d2 : decide ((-1 : Int) ≥ Int.ofNat r.body.length) = false := decide_eq_false (by have : Int.ofNat r.body.length = (r.body.length : Int) := rfl; omega)
      have hok : okPl r (-1) := ⟨hs, by omega, by omega, fun h => by omega⟩
      have e0 : startP r.body (-1) = ([], []) := rfl
      refine WS_run 1000 (by simp only [go_sem, eRun_exit, Nat.reduceAdd, Nat.reduceLT, Nat.reduceEqDiff, reduceIte, reduceCtorEq, Int.reduceLT, Int.reduceBEq, Int.reduceGE, Int.reduceEq, Int.reduceAdd, Nat.reduceLeDiff, k_ref8_Plan_p19, k_ref8_Plan_p18, ld3, hlv, d2, c1, c2, zb, hw3]; rfl) ?_
      refine loop hok ⟨(by simp only [go_sem, eRun_exit, Nat.reduceAdd, Nat.reduceLT, Nat.reduceEqDiff, reduceIte, reduceCtorEq, Int.reduceLT, Int.reduceBEq, Int.reduceGE, Int.reduceEq, Int.reduceAdd, Nat.reduceLeDiff] <;> rfl), (by simp only [go_sem, eRun_exit, Nat.reduceAdd, Nat.reduceLT, Nat.reduceEqDiff, reduceIte, reduceCtorEq, Int.reduceLT, Int.reduceBEq, Int.reduceGE, Int.reduceEq, Int.reduceAdd, Nat.reduceLeDiff] <;> rfl), (by simp only [go_sem, eRun_exit, Nat.reduceAdd, Nat.reduceLT, Nat.reduceEqDiff, reduceIte, reduceCtorEq, Int.reduceLT, Int.reduceBEq, Int.reduceGE, Int.reduceEq, Int.reduceAdd, Nat.reduceLeDiff] <;> rfl), (by simp only [go_sem, eRun_exit, Nat.reduceAdd, Nat.reduceLT, Nat.reduceEqDiff, reduceIte, reduceCtorEq, Int.reduceLT, Int.reduceBEq, Int.reduceGE, Int.reduceEq, Int.reduceAdd, Nat.reduceLeDiff] <;> rfl)⟩ (e0 ▸ hA)
    · obtain ⟨i, rfl⟩ : ∃ i : Nat, first = Int.ofNat i := ⟨first.toNat, by have : Int.ofNat first.toNat = (first.toNat : Int) := rfl; omega⟩
      have hi0 : (Int.ofNat i).toNat = i := rfl
      have ei : Int.ofNat i = (i : Int) := rfl
      by_cases hge : r.body.length ≤ i
      · have hno : ¬ okPl r (Int.ofNat i) := fun h => by have := h.2.2.1; omega
        refine WS_run 1000 (by simp only [go_sem, eRun_exit, Nat.reduceAdd, Nat.reduceLT, Nat.reduceEqDiff, reduceIte, reduceCtorEq, Int.reduceLT, Int.reduceBEq, Int.reduceGE, Int.reduceEq, Int.reduceAdd, Nat.reduceLeDiff, k_ref8_Plan_p0, d1, ld3, hlv, hge]; rfl) ?_
        refine WS_ret ⟨_, by simp only [go_sem, eRun_exit, Nat.reduceAdd, Nat.reduceLT, Nat.reduceEqDiff, reduceIte, reduceCtorEq, Int.reduceLT, Int.reduceBEq, Int.reduceGE, Int.reduceEq, Int.reduceAdd, Nat.reduceLeDiff, k_ref8_Plan]; rfl, ?_⟩
        exact h1 w2 hno hf2
      have hlt : i < r.body.length := by omega
      obtain ⟨t, ht⟩ : ∃ t, r.body[i]? = some t := ⟨_, List.getElem?_eq_getElem hlt⟩
      have hla : litAt r.body i = t := litAt_some ht
      obtain ⟨b, o, c, v, rfl, _, _, _, a1, _, _, hrv⟩ := lits_at (hu.frm (fun _ _ hl => hl.frm hf2 fun _ _ h => h) hf2 fun _ _ h => h) ht
      by_cases hk : t.kind = 1
      case neg =>
        have hno : ¬ okPl r (Int.ofNat i) := fun h => hk (by have := h.2.2.2 (by omega); rw [hi0, hla] at this; exact this)
        refine WS_run 1000 (by simp only [go_sem, eRun_exit, Nat.reduceAdd, Nat.reduceLT, Nat.reduceEqDiff, reduceIte, reduceCtorEq, Int.reduceLT, Int.reduceBEq, Int.reduceGE, Int.reduceEq, Int.reduceAdd, Nat.reduceLeDiff, k_ref8_Plan_p0, d1, ld3, hlv, hge, hlt, a1, hk, Nat.zero_le]; rfl) ?_
        refine WS_ret ⟨_, by simp only [go_sem, eRun_exit, Nat.reduceAdd, Nat.reduceLT, Nat.reduceEqDiff, reduceIte, reduceCtorEq, Int.reduceLT, Int.reduceBEq, Int.reduceGE, Int.reduceEq, Int.reduceAdd, Nat.reduceLeDiff, k_ref8_Plan]; rfl, ?_⟩
        exact h1 w2 hno hf2
      have hok : okPl r (Int.ofNat i) := ⟨hs, by omega, by omega, fun _ => by rw [hi0, hla]; exact hk⟩
      have e0 : startP r.body (Int.ofNat i) = takeP r.body ([], []) i := by rw [startP, if_pos (by omega), hi0]
      rw [hk] at a1
      refine WS_runB 57 (by simp only [go_sem, eRun_exit, Nat.reduceAdd, Nat.reduceLT, Nat.reduceEqDiff, reduceIte, reduceCtorEq, Int.reduceLT, Int.reduceBEq, Int.reduceGE, Int.reduceEq, Int.reduceAdd, Nat.reduceLeDiff, k_ref8_Plan_p19, k_ref8_Plan_p18, d1, ld3, hlv, hge, hlt, a1, Nat.zero_le, c1, c2, zb, hw3]; rfl) ?_
      refine p2_ok C hbd (by simp) ⟨(by simp only [go_sem, eRun_exit, Nat.reduceAdd, Nat.reduceLT, Nat.reduceEqDiff, reduceIte, reduceCtorEq, Int.reduceLT, Int.reduceBEq, Int.reduceGE, Int.reduceEq, Int.reduceAdd, Nat.reduceLeDiff] <;> rfl), (by simp only [go_sem, eRun_exit, Nat.reduceAdd, Nat.reduceLT, Nat.reduceEqDiff, reduceIte, reduceCtorEq, Int.reduceLT, Int.reduceBEq, Int.reduceGE, Int.reduceEq, Int.reduceAdd, Nat.reduceLeDiff] <;> rfl), (by simp only [go_sem, eRun_exit, Nat.reduceAdd, Nat.reduceLT, Nat.reduceEqDiff, reduceIte, reduceCtorEq, Int.reduceLT, Int.reduceBEq, Int.reduceGE, Int.reduceEq, Int.reduceAdd, Nat.reduceLeDiff] <;> rfl), (by simp only [go_sem, eRun_exit, Nat.reduceAdd, Nat.reduceLT, Nat.reduceEqDiff, reduceIte, reduceCtorEq, Int.reduceLT, Int.reduceBEq, Int.reduceGE, Int.reduceEq, Int.reduceAdd, Nat.reduceLeDiff] <;> rfl)⟩ (by simp only [go_sem, eRun_exit, Nat.reduceAdd, Nat.reduceLT, Nat.reduceEqDiff, reduceIte, reduceCtorEq, Int.reduceLT, Int.reduceBEq, Int.reduceGE, Int.reduceEq, Int.reduceAdd, Nat.reduceLeDiff] <;> rfl) hA hlt fun f' w' ov' bv' So' Sb' hF' hA' => ?_
      refine WS_runB 2 (by simp only [go_sem, eRun_exit, Nat.reduceAdd, Nat.reduceLT, Nat.reduceEqDiff, reduceIte, reduceCtorEq, Int.reduceLT, Int.reduceBEq, Int.reduceGE, Int.reduceEq, Int.reduceAdd, Nat.reduceLeDiff]; rfl) ?_
      exact loop hok hF' (e0 ▸ hA')
end Go.Proofs.Ytjidefnbancmfaa

/- Plans: the queue. -/
set_option linter.unusedVariables false
set_option maxRecDepth 10000
set_option linter.unusedSimpArgs false
namespace Go.Proofs.Ytjidefnbancmfaa
open Go.AE Delphi
variable {tab : Tab}
theorem over_at {cs new : List V} {i k : Nat} (hl : new.length = k) (hi : i + k ≤ cs.length) : over cs i new = some (cs.take i ++ new ++ cs.drop (i + k)) := by
  have h := over_mid (cs.take i) ((cs.drop i).take k) (cs.drop (i + k)) new (by rw [List.length_take, List.length_drop]; omega)
  have e : cs.take i ++ (cs.drop i).take k ++ cs.drop (i + k) = cs := by
    rw [List.append_assoc]
    have : (cs.drop i).take k ++ cs.drop (i + k) = cs.drop i := by rw [← List.drop_drop]; exact List.take_append_drop k (cs.drop i)
    rw [this, List.take_append_drop]
  rw [e, List.length_take, Nat.min_eq_left (by omega)] at h
  exact h
theorem bt_set {S : Nat → Prop} {w : AW} {v : V} {esz n : Nat} {cs : List V} (h : Bt S w v esz n cs) {i : Nat} (hi : i < n) {new : List V} (hl : new.length = esz) (h1 : allOne new = true) :
    ∃ b w', v = .slice b 0 n (.upTo esz) ∧ w.store b (i * esz) new = some w' ∧ Bt S w' v esz n (cs.take (i * esz) ++ new ++ cs.drop (i * esz + esz)) ∧ Frm S w w' ∧ w'.next = w.next := by
  cases h with
  | nil => omega
  | @blk b _ _ _ sh hS hb hx hlen he hn hs =>
    have hle : i * esz + esz ≤ cs.length := by rw [hlen]; have := Nat.mul_le_mul_right esz (show i + 1 ≤ n by omega); rw [Nat.add_mul] at this; omega
    have ho := over_at (cs := cs) (i := i * esz) hl hle
    have fr : Frm S w (w.turn b (.cells (cs.take (i * esz) ++ new ++ cs.drop (i * esz + esz)) sh)) := turn_frm hS hs
    refine ⟨b, _, rfl, store_shr hx hs h1 ho, .blk (sh := sh) hS hb T.get_put_same ?_ he hn (turn_shr hb hs), fr, rfl⟩
    simp only [List.length_append, List.length_take, List.length_drop]; rw [hl]; omega
def kyC (k : Ky) : List V := [.int .i64 (Int.ofNat k.2.2), .bool k.1, .int .i64 (Int.ofNat k.2.1)]
def kysC (ks : List Ky) : List V := (ks.map kyC).flatten
theorem kysC_app (a b : List Ky) : kysC (a ++ b) = kysC a ++ kysC b := by simp [kysC]
theorem kysC_len : ∀ ks : List Ky, (kysC ks).length = ks.length * 3
  | [] => rfl
  | k :: ks => by
    have : kysC (k :: ks) = kyC k ++ kysC ks := rfl
    rw [this, List.length_append, kysC_len ks, List.length_cons]; simp [kyC]; omega
theorem kysC_set {ks : List Ky} {i : Nat} (hi : i < ks.length) (k : Ky) : (kysC ks).take (i * 3) ++ kyC k ++ (kysC ks).drop (i * 3 + 3) = kysC (ks.set i k) := by
  have e0 : ks = ks.take i ++ (ks[i] :: ks.drop (i + 1)) := by
    rw [← List.drop_eq_getElem_cons hi, List.take_append_drop]
  have e1 : kysC ks = kysC (ks.take i) ++ (kyC ks[i] ++ kysC (ks.drop (i + 1))) := by
    conv => lhs; rw [e0]
    rw [kysC_app]; rfl
  have l1 : (kysC (ks.take i)).length = i * 3 := by rw [kysC_len, List.length_take, Nat.min_eq_left (by omega)]
  have l2 : (kyC ks[i]).length = 3 := rfl
  have e2 : ks.set i k = ks.take i ++ k :: ks.drop (i + 1) := by
    rw [List.set_eq_take_append_cons_drop, if_pos hi]
  rw [e1, e2, kysC_app]
  have : kysC (k :: ks.drop (i + 1)) = kyC k ++ kysC (ks.drop (i + 1)) := rfl
  rw [this, List.take_append_of_le_length (by omega), List.take_of_length_le (by omega), List.append_assoc]
  congr 2
  rw [← l1, List.drop_append, List.drop_eq_nil_of_le (by omega), List.nil_append, Nat.add_sub_cancel_left, ← l2, List.drop_left]
abbrev QB (S : Nat → Prop) (w : AW) (v : V) (ks : List Ky) : Prop := Bt S w v 3 ks.length (kysC ks)
theorem qb_set {S : Nat → Prop} {w : AW} {v : V} {ks : List Ky} (h : QB S w v ks) {i : Nat} (hi : i < ks.length) (k : Ky) :
    ∃ b w', v = .slice b 0 ks.length (.upTo 3) ∧ w.store b (i * 3) (kyC k) = some w' ∧ QB S w' v (ks.set i k) ∧ Frm S w w' ∧ w'.next = w.next := by
  obtain ⟨b, w', h1, h2, h3, h4, h5⟩ := bt_set h hi (new := kyC k) rfl rfl
  rw [kysC_set hi] at h3
  exact ⟨b, w', h1, h2, by show Bt S w' v 3 (ks.set i k).length _; rw [List.length_set]; exact h3, h4, h5⟩
theorem qb_at {S : Nat → Prop} {w : AW} {v : V} {ks : List Ky} (h : QB S w v ks) {i : Nat} {k : Ky} (hk : ks[i]? = some k) : ∃ b, v = .slice b 0 ks.length (.upTo 3) ∧ S b ∧ b < w.next ∧ w.load b (i * 3) 3 = some (kyC k) := by
  have hi : i < ks.length := (List.getElem?_eq_some_iff.1 hk).1
  rcases h.inv with ⟨_, h0, _⟩ | ⟨b, rfl, hS, hb⟩
  · omega
  rcases h.rd.inv with ⟨q, _⟩ | ⟨b', o', c', q, hB⟩
  · cases q
  cases q
  refine ⟨b, rfl, hS, hb, ?_⟩
  have := hB.load (i * 3) 3 (by omega)
  rw [Nat.zero_add] at this
  rw [this]
  refine congrArg some ?_
  have e0 : ks = ks.take i ++ (k :: ks.drop (i + 1)) := by
    have := List.getElem?_eq_getElem hi
    rw [this] at hk; cases hk
    rw [← List.drop_eq_getElem_cons hi, List.take_append_drop]
  have l1 : (kysC (ks.take i)).length = i * 3 := by rw [kysC_len, List.length_take, Nat.min_eq_left (by omega)]
  have e1 : kysC ks = kysC (ks.take i) ++ (kyC k ++ kysC (ks.drop (i + 1))) := by
    conv => lhs; rw [e0]
    rw [kysC_app]; rfl
  rw [e1, ← l1, List.drop_left]
  rfl
/-- Less. -/
theorem qless_ok (C : Codes tab) {S : Nat → Prop} {w : AW} {v : V} {ks : List Ky} {i j : Nat} {a b : Ky} {K : V → AW → Prop} (h : QB S w v ks) (hi : ks[i]? = some a) (hj : ks[j]? = some b)
    (hK : ∀ w', Frm (fun _ => False) w w' → K (.bool (lessK a b)) w') : WF tab n_plan_queue_Less [v, .int .i64 (Int.ofNat i), .int .i64 (Int.ofNat j)] w K := by
  refine WF_of C.c_plan_queue_Less rfl ?_
  have hil : i < ks.length := (List.getElem?_eq_some_iff.1 hi).1
  have hjl : j < ks.length := (List.getElem?_eq_some_iff.1 hj).1
  obtain ⟨bl, rfl, hS, hb, l1⟩ := qb_at h hi
  obtain ⟨bl', e, _, _, l2⟩ := qb_at h hj
  cases e
  have g1 := fresh_frm (S := fun _ => False) w [V.int .i64 0, V.bool false, V.int .i64 0]
  have m1 : (w.fresh [V.int .i64 0, V.bool false, V.int .i64 0]).next = w.next + 1 := rfl
  have c1 := fresh_cb w [V.int .i64 0, V.bool false, V.int .i64 0]
  have h1 := h.frm g1 fun _ _ h => h
  generalize hw1 : w.fresh [V.int .i64 0, V.bool false, V.int .i64 0] = w1 at g1 m1 c1 h1
  have g2 := fresh_frm (S := fun _ => False) w1 [V.int .i64 0, V.bool false, V.int .i64 0]
  have m2 : (w1.fresh [V.int .i64 0, V.bool false, V.int .i64 0]).next = w1.next + 1 := rfl
  have c2 := fresh_cb w1 [V.int .i64 0, V.bool false, V.int .i64 0]
  have h2 := h1.frm g2 fun _ _ h => h
  have c12 := c1.frm g2 fun h => h
  generalize hw2 : w1.fresh [V.int .i64 0, V.bool false, V.int .i64 0] = w2 at g2 m2 c2 h2 c12
  have s3 := c12.setAll (vs := kyC a) rfl rfl
  have p3 : Frm (fun x => x = w.next) w2 (w2.put w.next (kyC a)) := put_frm
  have c3 : CB (w2.put w.next (kyC a)) w.next (kyC a) := put_cb c12.lt
  have c23 := c2.frm p3 (by show ¬ w1.next = w.next; omega)
  have f3 : Frm (fun _ => False) w (w2.put w.next (kyC a)) := (g1.tr g2).out (Nat.le_refl _) rfl
  generalize hw3 : w2.put w.next (kyC a) = w3 at s3 p3 c3 c23 f3
  have s4 := c23.setAll (vs := kyC b) rfl rfl
  have p4 : Frm (fun x => x = w1.next) w3 (w3.put w1.next (kyC b)) := put_frm
  have c4 : CB (w3.put w1.next (kyC b)) w1.next (kyC b) := put_cb c23.lt
  have c34 := c3.frm p4 (by show ¬ w.next = w1.next; omega)
  have f4 : Frm (fun _ => False) w (w3.put w1.next (kyC b)) := f3.out (by omega) rfl
  generalize hw4 : w3.put w1.next (kyC b) = w4 at s4 p4 c4 c34 f4
  obtain ⟨x1, e, _, _, a1⟩ := qb_at h1 hi
  cases e
  obtain ⟨x1, e, _, _, a2⟩ := qb_at h2 hi
  cases e
  obtain ⟨x1, e, _, _, b1⟩ := qb_at h1 hj
  cases e
  obtain ⟨x1, e, _, _, b2⟩ := qb_at h2 hj
  cases e
  obtain ⟨x1, e, _, _, b3⟩ := qb_at (h.frm f3 fun _ _ h => h) hj
  cases e
  have u0 : w4.load w.next 0 1 = some [.int .i64 (Int.ofNat a.2.2)] := by rw [c34.load]; rfl
  have u1 : w4.load w.next 1 1 = some [.bool a.1] := by rw [c34.load]; rfl
  have u2 : w4.load w.next 2 1 = some [.int .i64 (Int.ofNat a.2.1)] := by rw [c34.load]; rfl
  have v0 : w4.load w1.next 0 1 = some [.int .i64 (Int.ofNat b.2.2)] := by rw [c4.load]; rfl
  have v1 : w4.load w1.next 1 1 = some [.bool b.1] := by rw [c4.load]; rfl
  have v2 : w4.load w1.next 2 1 = some [.int .i64 (Int.ofNat b.2.1)] := by rw [c4.load]; rfl
  have ka : (kyC a).length = 3 := rfl
  have kb : (kyC b).length = 3 := rfl
  have hK := hK w4 f4
  refine WS_run 1000 (by simp only [go_sem, eRun_exit, Nat.reduceAdd, Nat.reduceLT, Nat.reduceEqDiff, reduceIte, reduceCtorEq, Nat.reduceLeDiff, k_plan_queue_Less, k_plan_queue_Less_p5]; rfl) ?_
  refine WS_drawn ?_
  refine WDs_run 100 (by simp only [go_sem, eRun_exit, Nat.reduceAdd, Nat.reduceLT, Nat.reduceEqDiff, reduceIte, reduceCtorEq, Nat.reduceLeDiff, hil, hjl, l1, l2, hw1, hw2, s3, s4, ka, kb, Nat.zero_add]; rfl) ?_
  refine WDs_nil ⟨(show chkAll _ _ [(3, 8), (3, 9), (7, 8), (7, 9), (7, 10)] from by simp only [go_sem, eRun_exit, Nat.reduceAdd, Nat.reduceLT, Nat.reduceEqDiff, reduceIte, reduceCtorEq, Nat.reduceLeDiff, chkAll, chk, List.reverse_cons, List.reverse_nil, mkStp_fe, mkStp_v, mkStp_0, mkStp_1, List.getElem?_nil, false_or, or_true, or_false, exists_eq', Option.some.injEq, Prod.mk.injEq, Bool.true_eq_false, Bool.false_eq_true, and_true, true_and, implies_true,  hil, hjl, l1, l2, a1, a2, b1, b2, b3, Nat.zero_add]), ?_⟩
  obtain ⟨x1, x2, x3⟩ := a
  obtain ⟨y1, y2, y3⟩ := b
  simp only at u0 u1 u2 v0 v1 v2 hK
  by_cases hn : x2 = y2
  · subst hn
    cases x1 <;> cases y1 <;> simp only [lessK, ne_eq, not_true_eq_false, if_false, reduceCtorEq, not_false_eq_true, if_true] at hK
    · refine WS_run 1000 (by simp only [go_sem, eRun_exit, Nat.reduceAdd, Nat.reduceLT, Nat.reduceEqDiff, reduceIte, reduceCtorEq, Nat.reduceLeDiff, k_plan_queue_Less_p3, k_plan_queue_Less_p2, k_plan_queue_Less_p4, u0, u1, u2, v0, v1, v2, eqV]; rfl) ?_
      refine WS_ret ⟨_, by simp only [go_sem, eRun_exit, Nat.reduceAdd, Nat.reduceLT, Nat.reduceEqDiff, reduceIte, reduceCtorEq, Nat.reduceLeDiff, k_plan_queue_Less]; rfl, ?_⟩
      exact hK
    · refine WS_run 1000 (by simp only [go_sem, eRun_exit, Nat.reduceAdd, Nat.reduceLT, Nat.reduceEqDiff, reduceIte, reduceCtorEq, Nat.reduceLeDiff, k_plan_queue_Less_p3, k_plan_queue_Less_p1, u0, u1, u2, v0, v1, v2, eqV]; rfl) ?_
      refine WS_ret ⟨_, by simp only [go_sem, eRun_exit, Nat.reduceAdd, Nat.reduceLT, Nat.reduceEqDiff, reduceIte, reduceCtorEq, Nat.reduceLeDiff, k_plan_queue_Less]; rfl, ?_⟩
      exact hK
    · refine WS_run 1000 (by simp only [go_sem, eRun_exit, Nat.reduceAdd, Nat.reduceLT, Nat.reduceEqDiff, reduceIte, reduceCtorEq, Nat.reduceLeDiff, k_plan_queue_Less_p3, k_plan_queue_Less_p1, u0, u1, u2, v0, v1, v2, eqV]; rfl) ?_
      refine WS_ret ⟨_, by simp only [go_sem, eRun_exit, Nat.reduceAdd, Nat.reduceLT, Nat.reduceEqDiff, reduceIte, reduceCtorEq, Nat.reduceLeDiff, k_plan_queue_Less]; rfl, ?_⟩
      exact hK
    · refine WS_run 1000 (by simp only [go_sem, eRun_exit, Nat.reduceAdd, Nat.reduceLT, Nat.reduceEqDiff, reduceIte, reduceCtorEq, Nat.reduceLeDiff, k_plan_queue_Less_p3, k_plan_queue_Less_p2, k_plan_queue_Less_p4, u0, u1, u2, v0, v1, v2, eqV]; rfl) ?_
      refine WS_ret ⟨_, by simp only [go_sem, eRun_exit, Nat.reduceAdd, Nat.reduceLT, Nat.reduceEqDiff, reduceIte, reduceCtorEq, Nat.reduceLeDiff, k_plan_queue_Less]; rfl, ?_⟩
      exact hK
  · cases x1 <;> cases y1 <;> simp only [lessK, ne_eq, not_true_eq_false, if_false, reduceCtorEq, not_false_eq_true, if_true, hn] at hK
    · refine WS_run 1000 (by simp only [go_sem, eRun_exit, Nat.reduceAdd, Nat.reduceLT, Nat.reduceEqDiff, reduceIte, reduceCtorEq, Nat.reduceLeDiff, k_plan_queue_Less_p3, k_plan_queue_Less_p2, k_plan_queue_Less_p0, u0, u1, u2, v0, v1, v2, eqV, hn]; rfl) ?_
      refine WS_ret ⟨_, by simp only [go_sem, eRun_exit, Nat.reduceAdd, Nat.reduceLT, Nat.reduceEqDiff, reduceIte, reduceCtorEq, Nat.reduceLeDiff, k_plan_queue_Less]; rfl, ?_⟩
      exact hK
    · refine WS_run 1000 (by simp only [go_sem, eRun_exit, Nat.reduceAdd, Nat.reduceLT, Nat.reduceEqDiff, reduceIte, reduceCtorEq, Nat.reduceLeDiff, k_plan_queue_Less_p3, k_plan_queue_Less_p1, u0, u1, u2, v0, v1, v2, eqV]; rfl) ?_
      refine WS_ret ⟨_, by simp only [go_sem, eRun_exit, Nat.reduceAdd, Nat.reduceLT, Nat.reduceEqDiff, reduceIte, reduceCtorEq, Nat.reduceLeDiff, k_plan_queue_Less]; rfl, ?_⟩
      exact hK
    · refine WS_run 1000 (by simp only [go_sem, eRun_exit, Nat.reduceAdd, Nat.reduceLT, Nat.reduceEqDiff, reduceIte, reduceCtorEq, Nat.reduceLeDiff, k_plan_queue_Less_p3, k_plan_queue_Less_p1, u0, u1, u2, v0, v1, v2, eqV]; rfl) ?_
      refine WS_ret ⟨_, by simp only [go_sem, eRun_exit, Nat.reduceAdd, Nat.reduceLT, Nat.reduceEqDiff, reduceIte, reduceCtorEq, Nat.reduceLeDiff, k_plan_queue_Less]; rfl, ?_⟩
      exact hK
    · refine WS_run 1000 (by simp only [go_sem, eRun_exit, Nat.reduceAdd, Nat.reduceLT, Nat.reduceEqDiff, reduceIte, reduceCtorEq, Nat.reduceLeDiff, k_plan_queue_Less_p3, k_plan_queue_Less_p2, k_plan_queue_Less_p0, u0, u1, u2, v0, v1, v2, eqV, hn]; rfl) ?_
      refine WS_ret ⟨_, by simp only [go_sem, eRun_exit, Nat.reduceAdd, Nat.reduceLT, Nat.reduceEqDiff, reduceIte, reduceCtorEq, Nat.reduceLeDiff, k_plan_queue_Less]; rfl, ?_⟩
      exact hK
end Go.Proofs.Ytjidefnbancmfaa

/- Plans: the queue's Swap and Push; heap's up. -/
set_option linter.unusedVariables false
set_option maxRecDepth 10000
set_option linter.unusedSimpArgs false
namespace Delphi
def swapK (ks : List Ky) (i j : Nat) (a b : Ky) : List Ky := (ks.set i b).set j a
theorem swapK_len {ks : List Ky} {i j : Nat} {a b : Ky} : (swapK ks i j a b).length = ks.length := by simp [swapK]
theorem swapK_at {ks : List Ky} {i j p : Nat} {a b : Ky} (hi : i < ks.length) (hj : j < ks.length) : (swapK ks i j a b)[p]? = if j = p then some a else if i = p then some b else ks[p]? := by
  unfold swapK
  rw [List.getElem?_set, List.getElem?_set]
  by_cases e1 : j = p
  · subst e1; simp [hj]
  · by_cases e2 : i = p
    · subst e2; simp [e1, hi]
    · simp [e1, e2]
theorem swapK_mem {ks : List Ky} {i j : Nat} {a b : Ky} (ha : ks[i]? = some a) (hb : ks[j]? = some b) (k : Ky) : k ∈ swapK ks i j a b ↔ k ∈ ks := by
  have hi : i < ks.length := (List.getElem?_eq_some_iff.1 ha).1
  have hj : j < ks.length := (List.getElem?_eq_some_iff.1 hb).1
  rw [List.mem_iff_getElem?, List.mem_iff_getElem?]
  constructor
  · rintro ⟨p, hp⟩
    rw [swapK_at hi hj] at hp
    split at hp
    · exact ⟨i, by rw [ha]; exact hp⟩
    · split at hp
      · exact ⟨j, by rw [hb]; exact hp⟩
      · exact ⟨p, hp⟩
  · rintro ⟨p, hp⟩
    by_cases e1 : p = i
    · subst e1; exact ⟨j, by rw [swapK_at hi hj, if_pos rfl, ← hp, ha]⟩
    · by_cases e2 : p = j
      · subst e2
        refine ⟨i, ?_⟩
        rw [swapK_at hi hj]
        by_cases e3 : p = i
        · exact absurd e3 e1
        · rw [if_neg e3, if_pos rfl, ← hp, hb]
      · exact ⟨p, by rw [swapK_at hi hj, if_neg fun h => e2 h.symm, if_neg fun h => e1 h.symm]; exact hp⟩
def MinQ (ks : List Ky) : Prop := ∃ m, ks[0]? = some m ∧ ∀ k ∈ ks, k = m ∨ lessK m k = true
end Delphi
namespace Go.Proofs.Ytjidefnbancmfaa
open Go.AE Delphi
variable {tab : Tab}
/-- Swap. -/
theorem qswap_ok (C : Codes tab) {S : Nat → Prop} {w : AW} {v : V} {ks : List Ky} {i j : Nat} {a b : Ky} {K : V → AW → Prop} (h : QB S w v ks) (hi : ks[i]? = some a) (hj : ks[j]? = some b)
    (hK : ∀ w', QB S w' v (swapK ks i j a b) → Frm S w w' → w'.next = w.next → K (.tuple []) w') : WF tab n_plan_queue_Swap [v, .int .i64 (Int.ofNat i), .int .i64 (Int.ofNat j)] w K := by
  refine WF_of C.c_plan_queue_Swap rfl ?_
  have hil : i < ks.length := (List.getElem?_eq_some_iff.1 hi).1
  have hjl : j < ks.length := (List.getElem?_eq_some_iff.1 hj).1
  obtain ⟨bl, rfl, hS, hb, l1⟩ := qb_at h hi
  obtain ⟨bl', e, _, _, l2⟩ := qb_at h hj
  cases e
  obtain ⟨bl', w1, e, s1, h1, f1, n1⟩ := qb_set h hil b
  cases e
  obtain ⟨bl', w2, e, s2, h2, f2, n2⟩ := qb_set h1 (by rw [List.length_set]; exact hjl) a
  rw [List.length_set] at e
  cases e
  have ka : (kyC a).length = 3 := rfl
  have kb : (kyC b).length = 3 := rfl
  refine WS_run 1000 (by simp only [go_sem, eRun_exit, Nat.reduceAdd, Nat.reduceLT, Nat.reduceEqDiff, reduceIte, reduceCtorEq, Int.reduceLT, Int.reduceBEq, Int.reduceGE, Int.reduceEq, Int.reduceAdd, Nat.reduceLeDiff, k_plan_queue_Swap, hil, hjl, l1, l2, s1, s2, ka, kb, Nat.zero_add]; rfl) ?_
  refine WS_nil ⟨_, by simp only [go_sem, eRun_exit, Nat.reduceAdd, Nat.reduceLT, Nat.reduceEqDiff, reduceIte, reduceCtorEq, Int.reduceLT, Int.reduceBEq, Int.reduceGE, Int.reduceEq, Int.reduceAdd, Nat.reduceLeDiff, k_plan_queue_Swap]; rfl, ?_⟩
  exact hK w2 h2 (f1.tr f2) (n2.trans n1)
/-- a queue, empty or not. -/
def QQ (S : Nat → Prop) (w : AW) (v : V) (ks : List Ky) : Prop := (ks = [] ∧ ∃ b, v = .slice b 0 0 (.known 0)) ∨ (ks ≠ [] ∧ QB S w v ks)
/-- Push, the queue's. -/
theorem qpush_ok (C : Codes tab) {S : Nat → Prop} {w : AW} {v : V} {ks : List Ky} {x : Ky} {bq : Nat} {K : V → AW → Prop} (hq : CB w bq [v]) (h : QQ S w v ks) (hn : ks.length ≤ 100) (hS : ∀ y, S y → y < w.next ∧ y ≠ bq)
    (hK : ∀ w' v' S', CB w' bq [v'] → QB S' w' v' (ks ++ [x]) → Frm (fun y => S y ∨ y = bq) w w' → (∀ y, S' y → y < w'.next ∧ y ≠ bq ∧ (S y ∨ w.next ≤ y)) → K (.tuple []) w') : WF tab n_plan_queue_Push [.ptr bq 0, .iface 128 (.agg (kyC x))] w K := by
  refine WF_of C.c_plan_queue_Push rfl ?_
  obtain ⟨w1, s1, c1, r1, m1⟩ := boxed w (zs := [V.int .i64 0, V.bool false, V.int .i64 0]) (vs := kyC x) rfl rfl
  have hq1 := hq.frm r1 fun h => h
  have g2 := fresh_frm (S := fun _ => False) w1 (kyC x)
  have m2 : (w1.fresh (kyC x)).next = w1.next + 1 := rfl
  have c2 := fresh_cb w1 (kyC x)
  have el := elems_fresh (w := w1) (esz := 3) (n := 1) (cs := kyC x) (c := .known 1) (by omega) rfl
  have hq2 := hq1.frm g2 fun h => h
  have k3 : w1.load w.next 0 3 = some (kyC x) := c1.all rfl
  have lq : w1.load bq 0 1 = some [v] := hq1.load 0 1
  have lq2 : (w1.fresh (kyC x)).load bq 0 1 = some [v] := hq2.load 0 1
  have hlq := hq.lt
  have ap : ∃ v' w3 S3, (w1.fresh (kyC x)).appendV 3 24 v 1 (kyC x) = some (v', w3) ∧ QB S3 w3 v' (ks ++ [x]) ∧ Frm S (w1.fresh (kyC x)) w3 ∧ ∀ y, S3 y → y < w3.next ∧ (S y ∨ (w1.fresh (kyC x)).next ≤ y) := by
    rcases h with ⟨rfl, b, rfl⟩ | ⟨hne, hB⟩
    · refine ⟨.slice (w1.fresh (kyC x)).next 0 1 (.upTo 3), (w1.fresh (kyC x)).fresh (kyC x), fun y => y = (w1.fresh (kyC x)).next, rfl, ?_, fresh_frm _ _, ?_⟩
      · exact .blk rfl (Nat.lt_succ_self _) AE.T.get_put_same rfl (by omega) (by show 0 < 1; omega) (.inl rfl)
      · rintro y rfl; exact ⟨Nat.lt_succ_self _, .inr (Nat.le_refl _)⟩
    · obtain ⟨v', w3, S3, u1, u2, u3, u4⟩ := ((hB.frm r1 fun _ _ h => h).frm g2 fun _ _ h => h).addN (news := kyC x) (k := 1) (bytes := 24) (by omega) rfl rfl (by omega) (by omega)
      refine ⟨v', w3, S3, u1, ?_, u3, u4⟩
      show Bt S3 w3 v' 3 (ks ++ [x]).length (kysC (ks ++ [x]))
      rw [kysC_app, List.length_append]; exact u2
  obtain ⟨v', w3, S3, u1, u2, u3, u4⟩ := ap
  have hq3 := hq2.frm u3 fun h => (hS _ h).2 rfl
  have st := hq3.set (i := 0) (v := v') (by simp) u2.one.1
  have vc := u2.one.2
  have ka : (kyC x).length = 3 := rfl
  have hov : over [V.int .i64 0, V.bool false, V.int .i64 0] 0 (kyC x) = some (kyC x) := rfl
  have pf : Frm (fun y => y = bq) w3 (w3.put bq ([v].set 0 v')) := put_frm
  have c3 : CB (w3.put bq ([v].set 0 v')) bq [v'] := put_cb hq3.lt
  have nx := u3.next
  have sep : ∀ y, S3 y → y < w3.next ∧ y ≠ bq ∧ (S y ∨ w.next ≤ y) := by
    intro y hy
    obtain ⟨q1, q2⟩ := u4 y hy
    rcases q2 with q2 | q2
    · exact ⟨q1, (hS y q2).2, .inl q2⟩
    · exact ⟨q1, by omega, .inr (by omega)⟩
  have fin := hK (w3.put bq ([v].set 0 v')) v' S3 c3 (u2.frm pf fun y hy => (sep y hy).2.1) (((r1.tr g2).trans (U := S) u3 (fun _ _ h => h.elim) fun _ _ h => h).trans pf (fun _ _ h => .inl h) fun _ _ h => .inr h) sep
  refine WS_run 1000 (by simp only [go_sem, eRun_exit, Nat.reduceAdd, Nat.reduceLT, Nat.reduceEqDiff, reduceIte, reduceCtorEq, Int.reduceLT, Int.reduceBEq, Int.reduceGE, Int.reduceEq, Int.reduceAdd, Nat.reduceLeDiff, k_plan_queue_Push, k_plan_queue_Push_p0, s1, ka, List.length_cons, List.length_nil]; rfl) ?_
  refine WS_drawn ?_
  refine WDs_run 100 (by simp only [go_sem, eRun_exit, Nat.reduceAdd, Nat.reduceLT, Nat.reduceEqDiff, reduceIte, reduceCtorEq, Int.reduceLT, Int.reduceBEq, Int.reduceGE, Int.reduceEq, Int.reduceAdd, Nat.reduceLeDiff, lq, k3, evParts, fillV, hov, ka, el, u1, vc, st, List.length_cons, List.length_nil]; rfl) ?_
  refine WDs_nil ⟨(show chkAll _ _ [(3, 5)] from by simp only [go_sem, eRun_exit, Nat.reduceAdd, Nat.reduceLT, Nat.reduceEqDiff, reduceIte, reduceCtorEq, Int.reduceLT, Int.reduceBEq, Int.reduceGE, Int.reduceEq, Int.reduceAdd, Nat.reduceLeDiff, chkAll, chk, List.reverse_cons, List.reverse_nil, mkStp_fe, mkStp_v, mkStp_0, mkStp_1, List.getElem?_nil, false_or, or_true, or_false, exists_eq', Option.some.injEq, Prod.mk.injEq, Bool.true_eq_false, Bool.false_eq_true, and_true, true_and, implies_true,  lq, lq2]), ?_⟩
  refine WS_nil ⟨_, by simp only [go_sem, eRun_exit, Nat.reduceAdd, Nat.reduceLT, Nat.reduceEqDiff, reduceIte, reduceCtorEq, Int.reduceLT, Int.reduceBEq, Int.reduceGE, Int.reduceEq, Int.reduceAdd, Nat.reduceLeDiff, k_plan_queue_Push]; rfl, ?_⟩
  exact fin
def UpI (S : Nat → Prop) (bq : Nat) (v : V) (x : Ky) (m : Option Ky) (ks0 : List Ky) (aw : AW) (j : Nat) (f : Fr) (w : AW) : Prop :=
  ∃ ks, f.get 0 = some (.iface 122 (.ptr bq 0)) ∧ f.get 1 = some (.int .i64 (Int.ofNat j)) ∧ QB S w v ks ∧ CB w bq [v] ∧ Frm S aw w ∧ ks.length = ks0.length ∧ (∀ k, k ∈ ks ↔ k ∈ ks0) ∧ ks[j]? = some x ∧ (∀ p, ks[p]? = some x → p = j) ∧ (0 < j → ks[0]? = m) ∧ (j = 0 → ∀ k, m = some k → lessK x k = true)
/-- up. -/
theorem up_ok (C : Codes tab) {S : Nat → Prop} {aw : AW} {v : V} {bq : Nat} {ks : List Ky} {x : Ky} {K : V → AW → Prop} (hq : CB aw bq [v]) (h : QB S aw v (ks ++ [x])) (hn : ks.length ≤ 100) (hm : ks = [] ∨ MinQ ks) (hx : ∀ k ∈ ks, k.2.2 ≠ x.2.2) (hSq : ¬ S bq)
    (hK : ∀ w' ks', QB S w' v ks' → CB w' bq [v] → Frm S aw w' → ks'.length = ks.length + 1 → (∀ k, k ∈ ks' ↔ k ∈ ks ∨ k = x) → MinQ ks' → K (.tuple []) w') : WF tab n_heap_up [.iface 122 (.ptr bq 0), .int .i64 (Int.ofNat ks.length)] aw K := by
  refine WF_of C.c_heap_up rfl ?_
  have huq : ∀ p, (ks ++ [x])[p]? = some x → p = ks.length := by
    intro p hp
    by_cases hl : p < ks.length
    · rw [List.getElem?_append_left hl] at hp
      exact absurd rfl (hx x (List.mem_of_getElem? hp))
    · have : p < (ks ++ [x]).length := (List.getElem?_eq_some_iff.1 hp).1
      rw [List.length_append, List.length_singleton] at this
      omega
  refine WS_run 1000 (by simp only [go_sem, eRun_exit, Nat.reduceAdd, Nat.reduceLT, Nat.reduceEqDiff, reduceIte, reduceCtorEq, Int.reduceLT, Int.reduceBEq, Int.reduceGE, Int.reduceEq, Int.reduceAdd, Nat.reduceLeDiff, k_heap_up]; rfl) ?_
  refine WS_loopJ (UpI S bq v x ks[0]? (ks ++ [x]) aw) (fun f w => ∃ ks', QB S w v ks' ∧ CB w bq [v] ∧ Frm S aw w ∧ ks'.length = ks.length + 1 ∧ (∀ k, k ∈ ks' ↔ k ∈ ks ∨ k = x) ∧ MinQ ks') ?_ ?_ ks.length
    ⟨ks ++ [x], (by simp only [go_sem, eRun_exit, Nat.reduceAdd, Nat.reduceLT, Nat.reduceEqDiff, reduceIte, reduceCtorEq, Int.reduceLT, Int.reduceBEq, Int.reduceGE, Int.reduceEq, Int.reduceAdd, Nat.reduceLeDiff] <;> rfl), (by simp only [go_sem, eRun_exit, Nat.reduceAdd, Nat.reduceLT, Nat.reduceEqDiff, reduceIte, reduceCtorEq, Int.reduceLT, Int.reduceBEq, Int.reduceGE, Int.reduceEq, Int.reduceAdd, Nat.reduceLeDiff] <;> rfl), h, hq, Frm.refl _, rfl, fun _ => Iff.rfl, by simp, huq, fun h0 => by rw [List.getElem?_append_left h0], fun h0 k hk => by rw [List.length_eq_zero_iff.1 h0] at hk; simp at hk⟩
  · rintro j f w ⟨ks', f0, f1, hB, hc, hf, hl, hmem, hj, huniq, hroot, hless⟩ ih exit
    have hmem' : ∀ k, k ∈ ks' ↔ k ∈ ks ∨ k = x := fun k => by rw [hmem]; simp
    have hll : ks'.length = ks.length + 1 := by rw [hl]; simp
    have hjl : j < ks'.length := (List.getElem?_eq_some_iff.1 hj).1
    -- whoever is at the root is least
    have done0 : j = 0 → MinQ ks' := by
      rintro rfl
      refine ⟨x, hj, fun k hk => ?_⟩
      rcases (hmem' k).1 hk with hk | rfl
      · right
        rcases hm with rfl | ⟨m, hm0, hmin⟩
        · simp at hk
        · have h1 := hless rfl m hm0
          rcases hmin k hk with rfl | h2
          · exact h1
          · exact lessK_trans h1 h2
      · exact .inl rfl
    by_cases hz : j = 0
    · have e0 : Int.ofNat j = 0 := by rw [hz]; rfl
      have e1 : IntKind.wrap .i64 (Int.ofNat j - 1) = -1 := by rw [e0]; rfl
      have e2 : IntKind.wrap .i64 (Int.tdiv (-1) 2) = 0 := rfl
      have e3 : ((0 : Int) == Int.ofNat j) = true := by rw [e0]; rfl
      refine WS_runB 1000 (by simp only [go_sem, Nat.reduceAdd, Nat.reduceLT, Nat.reduceEqDiff, reduceIte, reduceCtorEq, Int.reduceLT, Int.reduceBEq, Int.reduceGE, Int.reduceEq, Int.reduceAdd, Nat.reduceLeDiff, k_heap_up_p2, k_heap_up_p1, f0, f1, e1, e2, e3]; rfl) ?_
      exact exit _ _ _ ⟨ks', hB, hc, hf, hll, hmem', done0 hz⟩ rfl
    have e1 : IntKind.wrap .i64 (Int.ofNat j - 1) = Int.ofNat (j - 1) := by
      have a1 : Int.ofNat j = (j : Int) := rfl
      have a2 : Int.ofNat (j - 1) = ((j - 1 : Nat) : Int) := rfl
      rw [wrap_id] <;> omega
    have e2 : IntKind.wrap .i64 (Int.tdiv (Int.ofNat (j - 1)) 2) = Int.ofNat ((j - 1) / 2) := by
      have a3 : Int.tdiv (Int.ofNat (j - 1)) 2 = Int.ofNat ((j - 1) / 2) := rfl
      have a4 : Int.ofNat ((j - 1) / 2) = (((j - 1) / 2 : Nat) : Int) := rfl
      rw [a3, wrap_id] <;> omega
    have hij : (j - 1) / 2 < j := by omega
    generalize (j - 1) / 2 = i at e2 hij
    have hne : ¬ i = j := by omega
    obtain ⟨a, ha⟩ : ∃ a, ks'[i]? = some a := ⟨_, List.getElem?_eq_getElem (by omega)⟩
    have lq : w.load bq 0 1 = some [v] := hc.load 0 1
    have hroot := hroot (by omega)
    refine WS_run 1000 (by simp only [go_sem, eRun_exit, Nat.reduceAdd, Nat.reduceLT, Nat.reduceEqDiff, reduceIte, reduceCtorEq, Int.reduceLT, Int.reduceBEq, Int.reduceGE, Int.reduceEq, Int.reduceAdd, Nat.reduceLeDiff, k_heap_up_p2, k_heap_up_p1, f0, f1, e1, e2, hne, lookT, lq]; rfl) ?_
    refine WS_call (by simp only [go_sem, eRun_exit, Nat.reduceAdd, Nat.reduceLT, Nat.reduceEqDiff, reduceIte, reduceCtorEq, Int.reduceLT, Int.reduceBEq, Int.reduceGE, Int.reduceEq, Int.reduceAdd, Nat.reduceLeDiff, lookT, lq]) (by simp only [go_sem, eRun_exit, Nat.reduceAdd, Nat.reduceLT, Nat.reduceEqDiff, reduceIte, reduceCtorEq, Int.reduceLT, Int.reduceBEq, Int.reduceGE, Int.reduceEq, Int.reduceAdd, Nat.reduceLeDiff, lookT, lq]; rfl) ?_
    refine qless_ok C hB hj ha fun w2 g2 => ?_
    have hB2 := hB.frm g2 fun _ _ h => h
    have hc2 := hc.frm g2 fun h => h
    have lq2 : w2.load bq 0 1 = some [v] := hc2.load 0 1
    have hf2 : Frm S aw w2 := hf.tr g2.no
    cases hlk : lessK x a with
    | false =>
      refine WS_runB 1000 (by simp only [go_sem, Nat.reduceAdd, Nat.reduceLT, Nat.reduceEqDiff, reduceIte, reduceCtorEq, Int.reduceLT, Int.reduceBEq, Int.reduceGE, Int.reduceEq, Int.reduceAdd, Nat.reduceLeDiff, f0, f1]; rfl) ?_
      refine exit _ _ _ ⟨ks', hB2, hc2, hf2, hll, hmem', ?_⟩ rfl
      rcases hm with rfl | ⟨m, hm0, hmin⟩
      · simp at hll; omega
      · rw [hm0] at hroot
        have hma : a = m ∨ lessK m a = true := by
          rcases (hmem' a).1 (List.mem_of_getElem? ha) with h | h
          · exact hmin a h
          · exact absurd (huniq i (by rw [ha, h])) hne
        have hmx : lessK m x = true := by
          have hxm : lessK x m = false := by
            cases hc : lessK x m with
            | false => rfl
            | true =>
              rcases hma with rfl | h
              · rw [hc] at hlk; cases hlk
              · rw [lessK_trans hc h] at hlk; cases hlk
          rcases lessK_total (hx m (List.mem_of_getElem? hm0)) with h | h
          · exact h
          · rw [h] at hxm; cases hxm
        refine ⟨m, hroot, fun k hk => ?_⟩
        rcases (hmem' k).1 hk with hk | rfl
        · exact hmin k hk
        · exact .inr hmx
    | true =>
      refine WS_run 1000 (by simp only [go_sem, eRun_exit, Nat.reduceAdd, Nat.reduceLT, Nat.reduceEqDiff, reduceIte, reduceCtorEq, Int.reduceLT, Int.reduceBEq, Int.reduceGE, Int.reduceEq, Int.reduceAdd, Nat.reduceLeDiff, k_heap_up_p0, f0, f1, lookT, lq2]; rfl) ?_
      refine WS_call (by simp only [go_sem, eRun_exit, Nat.reduceAdd, Nat.reduceLT, Nat.reduceEqDiff, reduceIte, reduceCtorEq, Int.reduceLT, Int.reduceBEq, Int.reduceGE, Int.reduceEq, Int.reduceAdd, Nat.reduceLeDiff, lookT, lq2]) (by simp only [go_sem, eRun_exit, Nat.reduceAdd, Nat.reduceLT, Nat.reduceEqDiff, reduceIte, reduceCtorEq, Int.reduceLT, Int.reduceBEq, Int.reduceGE, Int.reduceEq, Int.reduceAdd, Nat.reduceLeDiff, lookT, lq2]; rfl) ?_
      refine qswap_ok C hB2 ha hj fun w3 q1 q2 q3 => ?_
      have hc3 := hc2.frm q2 hSq
      refine WS_run 1000 (by simp only [go_sem, eRun_exit, Nat.reduceAdd, Nat.reduceLT, Nat.reduceEqDiff, reduceIte, reduceCtorEq, Int.reduceLT, Int.reduceBEq, Int.reduceGE, Int.reduceEq, Int.reduceAdd, Nat.reduceLeDiff]; rfl) ?_
      refine ih i _ _ hij ⟨swapK ks' i j a x, (by simp only [go_sem, eRun_exit, Nat.reduceAdd, Nat.reduceLT, Nat.reduceEqDiff, reduceIte, reduceCtorEq, Int.reduceLT, Int.reduceBEq, Int.reduceGE, Int.reduceEq, Int.reduceAdd, Nat.reduceLeDiff, f0] <;> rfl), (by simp only [go_sem, eRun_exit, Nat.reduceAdd, Nat.reduceLT, Nat.reduceEqDiff, reduceIte, reduceCtorEq, Int.reduceLT, Int.reduceBEq, Int.reduceGE, Int.reduceEq, Int.reduceAdd, Nat.reduceLeDiff] <;> rfl), q1, hc3, hf2.tr q2, by rw [swapK_len]; exact hl, fun k => by rw [swapK_mem ha hj]; exact hmem k, ?_, fun p hp => ?_, fun h0 => ?_, fun h0 k hk => ?_⟩
      · rw [swapK_at (by omega) hjl, if_neg fun h => hne h.symm, if_pos rfl]
      · rw [swapK_at (by omega) hjl] at hp
        split at hp
        · cases hp; exact absurd (huniq i ha) hne
        · split at hp
          · omega
          · rename_i h1 h2; exact absurd (huniq p hp).symm h1
      · rw [swapK_at (by omega) hjl, if_neg (by omega), if_neg (by omega)]; exact hroot
      · subst h0
        rw [ha] at hroot
        rw [← hroot] at hk
        cases hk; exact hlk
  · rintro f w ⟨ks', h1, h2, h3, h4, h5, h6⟩
    refine WS_nil ⟨_, by simp only [go_sem, eRun_exit, Nat.reduceAdd, Nat.reduceLT, Nat.reduceEqDiff, reduceIte, reduceCtorEq, Int.reduceLT, Int.reduceBEq, Int.reduceGE, Int.reduceEq, Int.reduceAdd, Nat.reduceLeDiff, k_heap_up]; rfl, ?_⟩
    exact hK w ks' h1 h2 h3 h4 h5 h6
end Go.Proofs.Ytjidefnbancmfaa

/- Plans: the heap's Push, down and Pop. -/
set_option linter.unusedVariables false
set_option maxRecDepth 10000
set_option linter.unusedSimpArgs false
namespace Go.Proofs.Ytjidefnbancmfaa
open Go.AE Delphi
variable {tab : Tab}
theorem qlen_ok (C : Codes tab) {w : AW} {v : V} {n : Nat} {K : V → AW → Prop} (h : lenV v = some n) (hK : K (.int .i64 (Int.ofNat n)) w) : WF tab n_plan_queue_Len [v] w K := by
  refine WF_of C.c_plan_queue_Len rfl ?_
  refine WS_run 1000 (by simp only [go_sem, eRun_exit, Nat.reduceAdd, Nat.reduceLT, Nat.reduceEqDiff, reduceIte, reduceCtorEq, Nat.reduceLeDiff, k_plan_queue_Len, h]; rfl) ?_
  refine WS_ret ⟨_, by simp only [go_sem, eRun_exit, Nat.reduceAdd, Nat.reduceLT, Nat.reduceEqDiff, reduceIte, reduceCtorEq, Nat.reduceLeDiff, k_plan_queue_Len]; rfl, ?_⟩
  exact hK
/-- Push. -/
theorem hpush_ok (C : Codes tab) {S : Nat → Prop} {w : AW} {v : V} {ks : List Ky} {x : Ky} {bq : Nat} {K : V → AW → Prop} (hq : CB w bq [v]) (h : QQ S w v ks) (hn : ks.length ≤ 100) (hS : ∀ y, S y → y < w.next ∧ y ≠ bq) (hm : ks = [] ∨ MinQ ks) (hx : ∀ k ∈ ks, k.2.2 ≠ x.2.2)
    (hK : ∀ w' v' S' ks', CB w' bq [v'] → QB S' w' v' ks' → Frm (fun y => S y ∨ y = bq) w w' → (∀ y, S' y → y < w'.next ∧ y ≠ bq ∧ (S y ∨ w.next ≤ y)) → ks'.length = ks.length + 1 → (∀ k, k ∈ ks' ↔ k ∈ ks ∨ k = x) → MinQ ks' → K (.tuple []) w') :
    WF tab n_heap_Push [.iface 122 (.ptr bq 0), .iface 128 (.agg (kyC x))] w K := by
  refine WF_of C.c_heap_Push rfl ?_
  refine WS_run 1000 (by simp only [go_sem, eRun_exit, Nat.reduceAdd, Nat.reduceLT, Nat.reduceEqDiff, reduceIte, reduceCtorEq, Nat.reduceLeDiff, k_heap_Push, lookT]; rfl) ?_
  refine WS_call (by simp only [go_sem, eRun_exit, Nat.reduceAdd, Nat.reduceLT, Nat.reduceEqDiff, reduceIte, reduceCtorEq, Nat.reduceLeDiff, lookT]) (by simp only [go_sem, eRun_exit, Nat.reduceAdd, Nat.reduceLT, Nat.reduceEqDiff, reduceIte, reduceCtorEq, Nat.reduceLeDiff, lookT]; rfl) ?_
  refine qpush_ok C hq h hn hS fun w1 v1 S1 c1 b1 f1 s1 => ?_
  have lq : w1.load bq 0 1 = some [v1] := c1.load 0 1
  have hlv := b1.lenV
  rw [List.length_append, List.length_singleton] at hlv
  refine WS_run 1000 (by simp only [go_sem, eRun_exit, Nat.reduceAdd, Nat.reduceLT, Nat.reduceEqDiff, reduceIte, reduceCtorEq, Nat.reduceLeDiff, k_heap_Push_p0, lookT, lq]; rfl) ?_
  refine WS_call (by simp only [go_sem, eRun_exit, Nat.reduceAdd, Nat.reduceLT, Nat.reduceEqDiff, reduceIte, reduceCtorEq, Nat.reduceLeDiff, lookT, lq]) (by simp only [go_sem, eRun_exit, Nat.reduceAdd, Nat.reduceLT, Nat.reduceEqDiff, reduceIte, reduceCtorEq, Nat.reduceLeDiff, lookT, lq]; rfl) ?_
  refine qlen_ok C hlv ?_
  have hsub : IntKind.wrap .i64 (Int.ofNat (ks.length + 1) - 1) = Int.ofNat ks.length := by
    have a1 : Int.ofNat (ks.length + 1) = ((ks.length + 1 : Nat) : Int) := rfl
    have a2 : Int.ofNat ks.length = (ks.length : Int) := rfl
    rw [wrap_id] <;> omega
  refine WS_run 1000 (by simp only [go_sem, eRun_exit, Nat.reduceAdd, Nat.reduceLT, Nat.reduceEqDiff, reduceIte, reduceCtorEq, Nat.reduceLeDiff, hsub]; rfl) ?_
  refine WS_call (by simp only [go_sem, eRun_exit, Nat.reduceAdd, Nat.reduceLT, Nat.reduceEqDiff, reduceIte, reduceCtorEq, Nat.reduceLeDiff]) (by simp only [go_sem, eRun_exit, Nat.reduceAdd, Nat.reduceLT, Nat.reduceEqDiff, reduceIte, reduceCtorEq, Nat.reduceLeDiff]; rfl) ?_
  refine up_ok C c1 b1 hn hm hx (fun h => (s1 _ h).2.1 rfl) fun w2 ks' q1 q2 q3 q4 q5 q6 => ?_
  refine WS_run 1000 (by simp only [go_sem, eRun_exit, Nat.reduceAdd, Nat.reduceLT, Nat.reduceEqDiff, reduceIte, reduceCtorEq, Nat.reduceLeDiff]; rfl) ?_
  refine WS_nil ⟨_, by simp only [go_sem, eRun_exit, Nat.reduceAdd, Nat.reduceLT, Nat.reduceEqDiff, reduceIte, reduceCtorEq, Nat.reduceLeDiff, k_heap_Push]; rfl, ?_⟩
  have nx := q3.next
  exact hK w2 v1 S1 ks' q2 q1 (f1.trans q3 (fun _ _ h => h) fun y hy h => (s1 y h).2.2.elim .inl fun h => by omega) (fun y hy => ⟨by have := (s1 y hy).1; omega, (s1 y hy).2⟩) q4 q5 q6
def DnI (S : Nat → Prop) (bq n : Nat) (v : V) (lst : Ky) (aw : AW) (q : Nat) (f : Fr) (w : AW) : Prop :=
  ∃ i ks, f.get 0 = some (.iface 122 (.ptr bq 0)) ∧ f.get 1 = some (.int .i64 (Int.ofNat 0)) ∧ f.get 2 = some (.int .i64 (Int.ofNat n)) ∧ f.get 7 = some (.int .i64 (Int.ofNat i)) ∧ q = n - i ∧ i ≤ n ∧ QB S w v ks ∧ CB w bq [v] ∧ Frm S aw w ∧ ks.length = n + 1 ∧ ks[n]? = some lst
/-- down. -/
theorem down_ok (C : Codes tab) {S : Nat → Prop} {aw : AW} {v : V} {bq n : Nat} {ks : List Ky} {lst : Ky} {K : V → AW → Prop} (hq : CB aw bq [v]) (h : QB S aw v ks) (hl : ks.length = n + 1) (hn : n ≤ 100) (hlast : ks[n]? = some lst) (hSq : ¬ S bq)
    (hK : ∀ w' ks' b, QB S w' v ks' → CB w' bq [v] → Frm S aw w' → ks'.length = n + 1 → ks'[n]? = some lst → K (.bool b) w') : WF tab n_heap_down [.iface 122 (.ptr bq 0), .int .i64 (Int.ofNat 0), .int .i64 (Int.ofNat n)] aw K := by
  refine WF_of C.c_heap_down rfl ?_
  refine WS_run 1000 (by simp only [go_sem, eRun_exit, Nat.reduceAdd, Nat.reduceLT, Nat.reduceEqDiff, reduceIte, reduceCtorEq, Nat.reduceLeDiff, k_heap_down, k_heap_down_p7]; rfl) ?_
  refine WS_loopJ (DnI S bq n v lst aw) (fun f w => ∃ i ks', f.get 1 = some (.int .i64 (Int.ofNat 0)) ∧ f.get 7 = some (.int .i64 (Int.ofNat i)) ∧ QB S w v ks' ∧ CB w bq [v] ∧ Frm S aw w ∧ ks'.length = n + 1 ∧ ks'[n]? = some lst) ?_ ?_ n
    ⟨0, ks, (by simp only [go_sem, eRun_exit, Nat.reduceAdd, Nat.reduceLT, Nat.reduceEqDiff, reduceIte, reduceCtorEq, Nat.reduceLeDiff] <;> rfl), (by simp only [go_sem, eRun_exit, Nat.reduceAdd, Nat.reduceLT, Nat.reduceEqDiff, reduceIte, reduceCtorEq, Nat.reduceLeDiff] <;> rfl), (by simp only [go_sem, eRun_exit, Nat.reduceAdd, Nat.reduceLT, Nat.reduceEqDiff, reduceIte, reduceCtorEq, Nat.reduceLeDiff] <;> rfl), (by simp only [go_sem, eRun_exit, Nat.reduceAdd, Nat.reduceLT, Nat.reduceEqDiff, reduceIte, reduceCtorEq, Nat.reduceLeDiff] <;> rfl), rfl, by omega, h, hq, Frm.refl _, hl, hlast⟩
  · rintro q f w ⟨i, ks, f0, f1, f2, f7, rfl, hi, hB, hc, hf, hl, hlast⟩ ih exit
    have e1 : IntKind.wrap .i64 (2 * Int.ofNat i) = Int.ofNat (2 * i) := by
      have a1 : Int.ofNat i = (i : Int) := rfl
      have a2 : Int.ofNat (2 * i) = ((2 * i : Nat) : Int) := rfl
      rw [wrap_id] <;> omega
    have e2 : IntKind.wrap .i64 (Int.ofNat (2 * i) + 1) = Int.ofNat (2 * i + 1) := wrap_succ (by omega)
    have hij : i < 2 * i + 1 := by omega
    have hj1 : 2 * i + 1 ≤ 201 := by omega
    generalize 2 * i + 1 = j1 at e2 hij hj1
    have e3 : IntKind.wrap .i64 (Int.ofNat j1 + 1) = Int.ofNat (j1 + 1) := wrap_succ (by omega)
    by_cases hg : n ≤ j1
    · refine WS_runB 1000 (by simp only [go_sem, Nat.reduceAdd, Nat.reduceLT, Nat.reduceEqDiff, reduceIte, reduceCtorEq, Nat.reduceLeDiff, k_heap_down_p6, k_heap_down_p5, f2, f7, e1, e2, hg]; rfl) ?_
      exact exit _ _ _ ⟨i, ks, (by simp only [go_sem, eRun_exit, Nat.reduceAdd, Nat.reduceLT, Nat.reduceEqDiff, reduceIte, reduceCtorEq, Nat.reduceLeDiff, f1] <;> rfl), (by simp only [go_sem, eRun_exit, Nat.reduceAdd, Nat.reduceLT, Nat.reduceEqDiff, reduceIte, reduceCtorEq, Nat.reduceLeDiff, f7] <;> rfl), hB, hc, hf, hl, hlast⟩ rfl
    have lq : w.load bq 0 1 = some [v] := hc.load 0 1
    obtain ⟨a, ha⟩ : ∃ a, ks[i]? = some a := ⟨_, List.getElem?_eq_getElem (by omega)⟩
    obtain ⟨b, hb⟩ : ∃ a, ks[j1]? = some a := ⟨_, List.getElem?_eq_getElem (by omega)⟩
    -- with the child told
    have child : ∀ {fr : Fr} {w : AW} {j : Nat}, fr.get 0 = some (.iface 122 (.ptr bq 0)) → fr.get 1 = some (.int .i64 (Int.ofNat 0)) → fr.get 2 = some (.int .i64 (Int.ofNat n)) → fr.get 7 = some (.int .i64 (Int.ofNat i)) → fr.get 9 = some (.int .i64 (Int.ofNat j)) → i < j → j < n → QB S w v ks → CB w bq [v] → Frm S aw w →
        WS tab (.code k_heap_down_p3 :: .endB 1 :: .code (.loop k_heap_down_p6) :: .endB 0 :: [.code (.seq (.region [⟨some 45, none, .mov (.tmp 7)⟩, ⟨some 46, none, .mov (.tmp 1)⟩, ⟨some 47, none, .bin .gtr (.tmp 45) (.tmp 46)⟩, ⟨some 6, none, .mov (.tmp 47)⟩]) .ret)]) fr w fun fr' a => ∃ vs, resV fr' a k_heap_down.results = some vs ∧ K (resOne vs) a := by
      intro fr w j f0 f1 f2 f7 f9 hij hjn hB hc hf
      have lq : w.load bq 0 1 = some [v] := hc.load 0 1
      obtain ⟨b, hb⟩ : ∃ a, ks[j]? = some a := ⟨_, List.getElem?_eq_getElem (by omega)⟩
      refine WS_run 1000 (by simp only [go_sem, eRun_exit, Nat.reduceAdd, Nat.reduceLT, Nat.reduceEqDiff, reduceIte, reduceCtorEq, Nat.reduceLeDiff, k_heap_down_p3, f0, f7, f9, lookT, lq]; rfl) ?_
      refine WS_call (by simp only [go_sem, eRun_exit, Nat.reduceAdd, Nat.reduceLT, Nat.reduceEqDiff, reduceIte, reduceCtorEq, Nat.reduceLeDiff, lookT, lq]) (by simp only [go_sem, eRun_exit, Nat.reduceAdd, Nat.reduceLT, Nat.reduceEqDiff, reduceIte, reduceCtorEq, Nat.reduceLeDiff, lookT, lq]; rfl) ?_
      refine qless_ok C hB hb ha fun w2 g2 => ?_
      have hB2 := hB.frm g2 fun _ _ h => h
      have hc2 := hc.frm g2 fun h => h
      have lq2 : w2.load bq 0 1 = some [v] := hc2.load 0 1
      have hf2 : Frm S aw w2 := hf.tr g2.no
      cases lessK b a with
      | false =>
        refine WS_runB 1000 (by simp only [go_sem, Nat.reduceAdd, Nat.reduceLT, Nat.reduceEqDiff, reduceIte, reduceCtorEq, Nat.reduceLeDiff, f0]; rfl) ?_
        exact exit _ _ _ ⟨i, ks, (by simp only [go_sem, eRun_exit, Nat.reduceAdd, Nat.reduceLT, Nat.reduceEqDiff, reduceIte, reduceCtorEq, Nat.reduceLeDiff, f1] <;> rfl), (by simp only [go_sem, eRun_exit, Nat.reduceAdd, Nat.reduceLT, Nat.reduceEqDiff, reduceIte, reduceCtorEq, Nat.reduceLeDiff, f7] <;> rfl), hB2, hc2, hf2, hl, hlast⟩ rfl
      | true =>
        refine WS_run 1000 (by simp only [go_sem, eRun_exit, Nat.reduceAdd, Nat.reduceLT, Nat.reduceEqDiff, reduceIte, reduceCtorEq, Nat.reduceLeDiff, k_heap_down_p2, f0, f7, f9, lookT, lq2]; rfl) ?_
        refine WS_call (by simp only [go_sem, eRun_exit, Nat.reduceAdd, Nat.reduceLT, Nat.reduceEqDiff, reduceIte, reduceCtorEq, Nat.reduceLeDiff, lookT, lq2]) (by simp only [go_sem, eRun_exit, Nat.reduceAdd, Nat.reduceLT, Nat.reduceEqDiff, reduceIte, reduceCtorEq, Nat.reduceLeDiff, lookT, lq2]; rfl) ?_
        refine qswap_ok C hB2 ha hb fun w3 q1 q2 q3 => ?_
        have hc3 := hc2.frm q2 hSq
        refine WS_run 1000 (by simp only [go_sem, eRun_exit, Nat.reduceAdd, Nat.reduceLT, Nat.reduceEqDiff, reduceIte, reduceCtorEq, Nat.reduceLeDiff, f9]; rfl) ?_
        refine ih (n - j) _ _ (by omega) ⟨j, swapK ks i j a b, (by simp only [go_sem, eRun_exit, Nat.reduceAdd, Nat.reduceLT, Nat.reduceEqDiff, reduceIte, reduceCtorEq, Nat.reduceLeDiff, f0] <;> rfl), (by simp only [go_sem, eRun_exit, Nat.reduceAdd, Nat.reduceLT, Nat.reduceEqDiff, reduceIte, reduceCtorEq, Nat.reduceLeDiff, f1] <;> rfl), (by simp only [go_sem, eRun_exit, Nat.reduceAdd, Nat.reduceLT, Nat.reduceEqDiff, reduceIte, reduceCtorEq, Nat.reduceLeDiff, f2] <;> rfl), (by simp only [go_sem, eRun_exit, Nat.reduceAdd, Nat.reduceLT, Nat.reduceEqDiff, reduceIte, reduceCtorEq, Nat.reduceLeDiff] <;> rfl), rfl, by omega, q1, hc3, hf2.tr q2, by rw [swapK_len]; exact hl, ?_⟩
        rw [swapK_at (by omega) (by omega), if_neg (by omega), if_neg (by omega)]; exact hlast
    by_cases hg2 : j1 + 1 < n
    · obtain ⟨c, hcc⟩ : ∃ a, ks[j1 + 1]? = some a := ⟨_, List.getElem?_eq_getElem (by omega)⟩
      refine WS_run 1000 (by simp only [go_sem, eRun_exit, Nat.reduceAdd, Nat.reduceLT, Nat.reduceEqDiff, reduceIte, reduceCtorEq, Nat.reduceLeDiff, k_heap_down_p6, k_heap_down_p5, k_heap_down_p4, k_heap_down_p1, f0, f2, f7, e1, e2, e3, hg, hg2, lookT, lq]; rfl) ?_
      refine WS_call (by simp only [go_sem, eRun_exit, Nat.reduceAdd, Nat.reduceLT, Nat.reduceEqDiff, reduceIte, reduceCtorEq, Nat.reduceLeDiff, lookT, lq]) (by simp only [go_sem, eRun_exit, Nat.reduceAdd, Nat.reduceLT, Nat.reduceEqDiff, reduceIte, reduceCtorEq, Nat.reduceLeDiff, lookT, lq]; rfl) ?_
      refine qless_ok C hB hcc hb fun w2 g2 => ?_
      have hB2 := hB.frm g2 fun _ _ h => h
      have hc2 := hc.frm g2 fun h => h
      have hf2 : Frm S aw w2 := hf.tr g2.no
      cases lessK c b with
      | false =>
        refine WS_runB 1000 (by simp only [go_sem, eRun_exit, Nat.reduceAdd, Nat.reduceLT, Nat.reduceEqDiff, reduceIte, reduceCtorEq, Nat.reduceLeDiff, f0]; rfl) ?_
        exact child (by simp only [go_sem, eRun_exit, Nat.reduceAdd, Nat.reduceLT, Nat.reduceEqDiff, reduceIte, reduceCtorEq, Nat.reduceLeDiff, f0] <;> rfl) (by simp only [go_sem, eRun_exit, Nat.reduceAdd, Nat.reduceLT, Nat.reduceEqDiff, reduceIte, reduceCtorEq, Nat.reduceLeDiff, f1] <;> rfl) (by simp only [go_sem, eRun_exit, Nat.reduceAdd, Nat.reduceLT, Nat.reduceEqDiff, reduceIte, reduceCtorEq, Nat.reduceLeDiff, f2] <;> rfl) (by simp only [go_sem, eRun_exit, Nat.reduceAdd, Nat.reduceLT, Nat.reduceEqDiff, reduceIte, reduceCtorEq, Nat.reduceLeDiff, f7] <;> rfl) (by simp only [go_sem, eRun_exit, Nat.reduceAdd, Nat.reduceLT, Nat.reduceEqDiff, reduceIte, reduceCtorEq, Nat.reduceLeDiff] <;> rfl) hij (by omega) hB2 hc2 hf2
      | true =>
        refine WS_runB 1000 (by simp only [go_sem, eRun_exit, Nat.reduceAdd, Nat.reduceLT, Nat.reduceEqDiff, reduceIte, reduceCtorEq, Nat.reduceLeDiff, k_heap_down_p0, f0]; rfl) ?_
        exact child (by simp only [go_sem, eRun_exit, Nat.reduceAdd, Nat.reduceLT, Nat.reduceEqDiff, reduceIte, reduceCtorEq, Nat.reduceLeDiff, f0] <;> rfl) (by simp only [go_sem, eRun_exit, Nat.reduceAdd, Nat.reduceLT, Nat.reduceEqDiff, reduceIte, reduceCtorEq, Nat.reduceLeDiff, f1] <;> rfl) (by simp only [go_sem, eRun_exit, Nat.reduceAdd, Nat.reduceLT, Nat.reduceEqDiff, reduceIte, reduceCtorEq, Nat.reduceLeDiff, f2] <;> rfl) (by simp only [go_sem, eRun_exit, Nat.reduceAdd, Nat.reduceLT, Nat.reduceEqDiff, reduceIte, reduceCtorEq, Nat.reduceLeDiff, f7] <;> rfl) (by simp only [go_sem, eRun_exit, Nat.reduceAdd, Nat.reduceLT, Nat.reduceEqDiff, reduceIte, reduceCtorEq, Nat.reduceLeDiff] <;> rfl) (by omega) hg2 hB2 hc2 hf2
    · refine WS_runB 1000 (by simp only [go_sem, eRun_exit, Nat.reduceAdd, Nat.reduceLT, Nat.reduceEqDiff, reduceIte, reduceCtorEq, Nat.reduceLeDiff, k_heap_down_p6, k_heap_down_p5, k_heap_down_p4, k_heap_down_p1, f0, f2, f7, e1, e2, e3, hg, hg2, lookT, lq]; rfl) ?_
      exact child (by simp only [go_sem, eRun_exit, Nat.reduceAdd, Nat.reduceLT, Nat.reduceEqDiff, reduceIte, reduceCtorEq, Nat.reduceLeDiff, f0] <;> rfl) (by simp only [go_sem, eRun_exit, Nat.reduceAdd, Nat.reduceLT, Nat.reduceEqDiff, reduceIte, reduceCtorEq, Nat.reduceLeDiff, f1] <;> rfl) (by simp only [go_sem, eRun_exit, Nat.reduceAdd, Nat.reduceLT, Nat.reduceEqDiff, reduceIte, reduceCtorEq, Nat.reduceLeDiff, f2] <;> rfl) (by simp only [go_sem, eRun_exit, Nat.reduceAdd, Nat.reduceLT, Nat.reduceEqDiff, reduceIte, reduceCtorEq, Nat.reduceLeDiff, f7] <;> rfl) (by simp only [go_sem, eRun_exit, Nat.reduceAdd, Nat.reduceLT, Nat.reduceEqDiff, reduceIte, reduceCtorEq, Nat.reduceLeDiff] <;> rfl) hij (by omega) hB hc hf
  · rintro f w ⟨i, ks', f1, f7, h1, h2, h3, h4, h5⟩
    refine WS_run 1000 (by simp only [go_sem, eRun_exit, Nat.reduceAdd, Nat.reduceLT, Nat.reduceEqDiff, reduceIte, reduceCtorEq, Nat.reduceLeDiff, f1, f7]; rfl) ?_
    refine WS_ret ⟨_, by simp only [go_sem, eRun_exit, Nat.reduceAdd, Nat.reduceLT, Nat.reduceEqDiff, reduceIte, reduceCtorEq, Nat.reduceLeDiff, k_heap_down]; rfl, ?_⟩
    exact hK w ks' _ h1 h2 h3 h4 h5
end Go.Proofs.Ytjidefnbancmfaa

/- Plans: the heap's Pop. -/
set_option linter.unusedVariables false
set_option maxRecDepth 10000
set_option linter.unusedSimpArgs false
namespace Go.Proofs.Ytjidefnbancmfaa
open Go.AE Delphi
variable {tab : Tab}
/-- Pop, the queue's. -/
theorem qpop_ok (C : Codes tab) {S : Nat → Prop} {w : AW} {v : V} {ks : List Ky} {n bq : Nat} {x : Ky} {K : V → AW → Prop} (hq : CB w bq [v]) (h : QB S w v ks) (hl : ks.length = n + 1) (hn : n ≤ 100) (hx : ks[n]? = some x)
    (hK : ∀ w', Frm (fun y => y = bq) w w' → K (.iface 128 (.agg (kyC x))) w') : WF tab n_plan_queue_Pop [.ptr bq 0] w K := by
  refine WF_of C.c_plan_queue_Pop rfl ?_
  obtain ⟨b, rfl, hS, hb, l1⟩ := qb_at h hx
  have hlv := h.lenV
  have lq : w.load bq 0 1 = some [.slice b 0 ks.length (.upTo 3)] := hq.load 0 1
  have g1 := fresh_frm (S := fun _ => False) w [V.int .i64 0, V.bool false, V.int .i64 0]
  have c1 := fresh_cb w [V.int .i64 0, V.bool false, V.int .i64 0]
  have lq1 : (w.fresh [V.int .i64 0, V.bool false, V.int .i64 0]).load bq 0 1 = some [.slice b 0 ks.length (.upTo 3)] := (hq.frm g1 fun h => h).load 0 1
  obtain ⟨b', e, _, _, l2⟩ := qb_at (h.frm g1 fun _ _ h => h) hx
  cases e
  have hsub : IntKind.wrap .i64 (Int.ofNat ks.length - 1) = Int.ofNat n := by
    have a1 : Int.ofNat ks.length = (ks.length : Int) := rfl
    have a2 : Int.ofNat n = (n : Int) := rfl
    rw [wrap_id] <;> omega
  have hlt : n < ks.length := by omega
  have hlqb := hq.lt
  obtain ⟨w2, s2, c2, r2, m2⟩ := boxed w (zs := [V.int .i64 0, V.bool false, V.int .i64 0]) (vs := kyC x) rfl rfl
  have hq2 := hq.frm r2 fun h => h
  have lq2 : w2.load bq 0 1 = some [.slice b 0 ks.length (.upTo 3)] := hq2.load 0 1
  have hsl : ∀ a : AW, a.sliceW 3 b 0 ks.length (.upTo 3) none (some n) none = some (.slice b 0 n (.upTo 3)) := by
    intro a
    have e1 : n ≤ ks.length ∧ 0 ≤ n ∧ 3 = 3 := ⟨by omega, by omega, rfl⟩
    have e2 : sliceV 3 b 0 ks.length (.upTo 3) none (some n) none = some (.slice b 0 n (.upTo 3)) := if_pos e1
    simp only [AW.sliceW, e2]
  have st := hq2.set (i := 0) (v := .slice b 0 n (.upTo 3)) (by simp) rfl
  have pf : Frm (fun y => y = bq) w2 (w2.put bq ([V.slice b 0 ks.length (.upTo 3)].set 0 (.slice b 0 n (.upTo 3)))) := put_frm
  have c3 := c2.frm pf (by show ¬ w.next = bq; omega)
  have k3 : (w2.put bq ([V.slice b 0 ks.length (.upTo 3)].set 0 (.slice b 0 n (.upTo 3)))).load w.next 0 3 = some (kyC x) := c3.all rfl
  have ka : (kyC x).length = 3 := rfl
  have fin := hK (w2.put bq ([V.slice b 0 ks.length (.upTo 3)].set 0 (.slice b 0 n (.upTo 3)))) (r2.no.tr pf)
  refine WS_run 1000 (by simp only [go_sem, eRun_exit, Nat.reduceAdd, Nat.reduceLT, Nat.reduceEqDiff, reduceIte, reduceCtorEq, Nat.reduceLeDiff, k_plan_queue_Pop, k_plan_queue_Pop_p1]; rfl) ?_
  refine WS_drawn ?_
  refine WDs_run 100 (by simp only [go_sem, eRun_exit, Nat.reduceAdd, Nat.reduceLT, Nat.reduceEqDiff, reduceIte, reduceCtorEq, Nat.reduceLeDiff, lq, hsub, hlt, l1, s2, ka, Nat.zero_add]; rfl) ?_
  refine WDs_nil ⟨(show chkAll _ _ [(2, 10), (5, 10), (9, 10)] from by simp only [go_sem, eRun_exit, Nat.reduceAdd, Nat.reduceLT, Nat.reduceEqDiff, reduceIte, reduceCtorEq, Nat.reduceLeDiff, chkAll, chk, List.reverse_cons, List.reverse_nil, mkStp_fe, mkStp_v, mkStp_0, mkStp_1, List.getElem?_nil, false_or, or_true, or_false, exists_eq', Option.some.injEq, Prod.mk.injEq, Bool.true_eq_false, Bool.false_eq_true, and_true, true_and, implies_true,  lq, lq1, l1, l2, Nat.zero_add]), ?_⟩
  refine WS_run 1000 (by simp only [go_sem, eRun_exit, Nat.reduceAdd, Nat.reduceLT, Nat.reduceEqDiff, reduceIte, reduceCtorEq, Nat.reduceLeDiff, k_plan_queue_Pop_p0, lq2, hsub, hsl, st, k3, List.length_cons, List.length_nil]; rfl) ?_
  refine WS_ret ⟨_, by simp only [go_sem, eRun_exit, Nat.reduceAdd, Nat.reduceLT, Nat.reduceEqDiff, reduceIte, reduceCtorEq, Nat.reduceLeDiff, k_plan_queue_Pop]; rfl, ?_⟩
  exact fin
/-- Pop. -/
theorem hpop_ok (C : Codes tab) {S : Nat → Prop} {w : AW} {v : V} {ks : List Ky} {n bq : Nat} {m : Ky} {K : V → AW → Prop} (hq : CB w bq [v]) (h : QB S w v ks) (hl : ks.length = n + 1) (hn : n ≤ 100) (hm : ks[0]? = some m) (hSq : ¬ S bq)
    (hK : ∀ w', Frm (fun y => S y ∨ y = bq) w w' → K (.iface 128 (.agg (kyC m))) w') : WF tab n_heap_Pop [.iface 122 (.ptr bq 0)] w K := by
  refine WF_of C.c_heap_Pop rfl ?_
  have lq : w.load bq 0 1 = some [v] := hq.load 0 1
  have hlv := h.lenV
  obtain ⟨x, hx⟩ : ∃ x, ks[n]? = some x := ⟨_, List.getElem?_eq_getElem (by omega)⟩
  have hsub : IntKind.wrap .i64 (Int.ofNat ks.length - 1) = Int.ofNat n := by
    have a1 : Int.ofNat ks.length = (ks.length : Int) := rfl
    have a2 : Int.ofNat n = (n : Int) := rfl
    rw [wrap_id] <;> omega
  refine WS_run 1000 (by simp only [go_sem, eRun_exit, Nat.reduceAdd, Nat.reduceLT, Nat.reduceEqDiff, reduceIte, reduceCtorEq, Nat.reduceLeDiff, k_heap_Pop, k_heap_Pop_p1, lookT, lq]; rfl) ?_
  refine WS_call (by simp only [go_sem, eRun_exit, Nat.reduceAdd, Nat.reduceLT, Nat.reduceEqDiff, reduceIte, reduceCtorEq, Nat.reduceLeDiff, lookT, lq]) (by simp only [go_sem, eRun_exit, Nat.reduceAdd, Nat.reduceLT, Nat.reduceEqDiff, reduceIte, reduceCtorEq, Nat.reduceLeDiff, lookT, lq]; rfl) ?_
  refine qlen_ok C hlv ?_
  refine WS_run 1000 (by simp only [go_sem, eRun_exit, Nat.reduceAdd, Nat.reduceLT, Nat.reduceEqDiff, reduceIte, reduceCtorEq, Nat.reduceLeDiff, hsub, lookT, lq]; rfl) ?_
  refine WS_call (by simp only [go_sem, eRun_exit, Nat.reduceAdd, Nat.reduceLT, Nat.reduceEqDiff, reduceIte, reduceCtorEq, Nat.reduceLeDiff, lookT, lq]) (by simp only [go_sem, eRun_exit, Nat.reduceAdd, Nat.reduceLT, Nat.reduceEqDiff, reduceIte, reduceCtorEq, Nat.reduceLeDiff, lookT, lq]; rfl) ?_
  refine qswap_ok C (i := 0) h hm hx fun w2 q1 q2 q3 => ?_
  have hc2 := hq.frm q2 hSq
  have hl2 : (swapK ks 0 n m x).length = n + 1 := by rw [swapK_len]; exact hl
  have hlast : (swapK ks 0 n m x)[n]? = some m := by rw [swapK_at (by omega) (by omega), if_pos rfl]
  refine WS_run 1000 (by simp only [go_sem, eRun_exit, Nat.reduceAdd, Nat.reduceLT, Nat.reduceEqDiff, reduceIte, reduceCtorEq, Nat.reduceLeDiff, k_heap_Pop_p0]; rfl) ?_
  refine WS_call (by simp only [go_sem, eRun_exit, Nat.reduceAdd, Nat.reduceLT, Nat.reduceEqDiff, reduceIte, reduceCtorEq, Nat.reduceLeDiff]) (by simp only [go_sem, eRun_exit, Nat.reduceAdd, Nat.reduceLT, Nat.reduceEqDiff, reduceIte, reduceCtorEq, Nat.reduceLeDiff]; rfl) ?_
  refine down_ok C hc2 q1 hl2 hn hlast hSq fun w3 ks3 b p1 p2 p3 p4 p5 => ?_
  refine WS_run 1000 (by simp only [go_sem, eRun_exit, Nat.reduceAdd, Nat.reduceLT, Nat.reduceEqDiff, reduceIte, reduceCtorEq, Nat.reduceLeDiff, lookT]; rfl) ?_
  refine WS_call (by simp only [go_sem, eRun_exit, Nat.reduceAdd, Nat.reduceLT, Nat.reduceEqDiff, reduceIte, reduceCtorEq, Nat.reduceLeDiff, lookT]) (by simp only [go_sem, eRun_exit, Nat.reduceAdd, Nat.reduceLT, Nat.reduceEqDiff, reduceIte, reduceCtorEq, Nat.reduceLeDiff, lookT]; rfl) ?_
  refine qpop_ok C p2 p1 p4 hn p5 fun w4 f4 => ?_
  refine WS_run 1000 (by simp only [go_sem, eRun_exit, Nat.reduceAdd, Nat.reduceLT, Nat.reduceEqDiff, reduceIte, reduceCtorEq, Nat.reduceLeDiff]; rfl) ?_
  refine WS_ret ⟨_, by simp only [go_sem, eRun_exit, Nat.reduceAdd, Nat.reduceLT, Nat.reduceEqDiff, reduceIte, reduceCtorEq, Nat.reduceLeDiff, k_heap_Pop]; rfl, ?_⟩
  exact hK w4 ((q2.tr p3).trans f4 (fun _ _ h => .inl h) fun _ _ h => .inr h)
end Go.Proofs.Ytjidefnbancmfaa

/- Plans: the work's count. -/
set_option linter.unusedVariables false
set_option maxRecDepth 10000
set_option linter.unusedSimpArgs false
namespace Go.Proofs.Ytjidefnbancmfaa
open Go.AE Delphi
variable {tab : Tab}
def CtwI (a : AW) (bw : Nat) (u5 : V) (bd : List (List Nat)) (x : Lt) (q : Nat) (f : Fr) (w : AW) : Prop :=
  ∃ i, f.get 0 = some (.ptr bw 0) ∧ f.get 5 = some (.int .i64 (Int.ofNat ((x.args.take i).countP (argB bd)))) ∧ f.get 9 = some u5 ∧ f.get 10 = some (.int .i64 (Int.ofNat x.args.length)) ∧ f.get 11 = some (.int .i64 (Int.ofNat i)) ∧ i ≤ x.args.length ∧ q = x.args.length - i ∧ Frm (fun _ => False) a w
/-- count. -/
theorem count_ok (C : Codes tab) {T : Nat → Prop} {aw : AW} {xs : List V} {x : Lt} {bw mb md k : Nat} {u ov bv : V} {M : Ps} {bd : List (List Nat)} {K : V → AW → Prop} (hc : CB aw bw [u, .map mb, .map md, ov, bv]) (hM : SM aw mb M) (hs : Seen M bd k) (hx : LtC T aw x xs) (ha : x.args.length ≤ 1000)
    (h : ∀ w, Frm (fun _ => False) aw w → K (.int .i64 (Int.ofNat (bndN bd x))) w) : WF tab n_plan_work_count [.ptr bw 0, .agg xs] aw K := by
  refine WF_of C.c_plan_work_count rfl ?_
  obtain ⟨v, rfl, hu⟩ := hx
  have cb := fresh_cb aw [V.int .i64 (Int.ofNat x.kind), .str x.name, v]
  have ff := fresh_frm (S := fun _ => False) aw [V.int .i64 (Int.ofNat x.kind), .str x.name, v]
  generalize hw1 : aw.fresh [V.int .i64 (Int.ofNat x.kind), .str x.name, v] = w1 at cb ff
  have l2 : w1.load aw.next 2 1 = some [v] := by rw [cb.load]; rfl
  have hlv := hu.lenV
  refine WS_run 1000 (by simp only [go_sem, eRun_exit, Nat.reduceAdd, Nat.reduceLT, Nat.reduceEqDiff, reduceIte, reduceCtorEq, Nat.reduceLeDiff, k_plan_work_count, k_plan_work_count_p4, hw1, l2, hlv]; rfl) ?_
  refine WS_loopJ (CtwI aw bw v bd x) (fun f w => f.get 5 = some (.int .i64 (Int.ofNat (bndN bd x))) ∧ Frm (fun _ => False) aw w) ?_ ?_ x.args.length ⟨0, (by simp only [go_sem, eRun_exit, Nat.reduceAdd, Nat.reduceLT, Nat.reduceEqDiff, reduceIte, reduceCtorEq, Nat.reduceLeDiff] <;> rfl), (by simp only [go_sem, eRun_exit, Nat.reduceAdd, Nat.reduceLT, Nat.reduceEqDiff, reduceIte, reduceCtorEq, Nat.reduceLeDiff] <;> rfl), (by simp only [go_sem, eRun_exit, Nat.reduceAdd, Nat.reduceLT, Nat.reduceEqDiff, reduceIte, reduceCtorEq, Nat.reduceLeDiff] <;> rfl), (by simp only [go_sem, eRun_exit, Nat.reduceAdd, Nat.reduceLT, Nat.reduceEqDiff, reduceIte, reduceCtorEq, Nat.reduceLeDiff] <;> rfl), (by simp only [go_sem, eRun_exit, Nat.reduceAdd, Nat.reduceLT, Nat.reduceEqDiff, reduceIte, reduceCtorEq, Nat.reduceLeDiff] <;> rfl), by omega, rfl, ff⟩
  · rintro q f w ⟨i, f0, f5, f9, f10, f11, hi, rfl, hf⟩ ih exit
    by_cases hlt : i < x.args.length
    case neg =>
      rw [List.take_of_length_le (by omega)] at f5
      refine WS_runB 1000 (by simp only [go_sem, Nat.reduceAdd, Nat.reduceLT, Nat.reduceEqDiff, reduceIte, reduceCtorEq, Nat.reduceLeDiff, k_plan_work_count_p3, f10, f11, hlt]; rfl) ?_
      exact exit _ _ _ ⟨(by simp only [go_sem, eRun_exit, Nat.reduceAdd, Nat.reduceLT, Nat.reduceEqDiff, reduceIte, reduceCtorEq, Nat.reduceLeDiff, f5, bndN] <;> rfl), hf⟩ rfl
    obtain ⟨t, ht⟩ : ∃ t, x.args[i]? = some t := ⟨_, List.getElem?_eq_getElem hlt⟩
    have hwr : IntKind.wrap .i64 (Int.ofNat i + 1) = Int.ofNat (i + 1) := wrap_succ (by omega)
    obtain ⟨b, o, c, rfl, _, _, t3, _, _⟩ := tms_at (hu.frm hf fun _ _ h => h) ht
    obtain ⟨w2, s2, c2, r2, n2⟩ := boxed w (zs := [V.int .i64 0, V.str [], V.int .i64 0]) (vs := tmC t) rfl rfl
    have hf2 := hf.tr r2
    have k0 : w2.load w.next 0 1 = some [.int .i64 (Int.ofNat t.kind)] := by rw [c2.load]; rfl
    have k1 : w2.load w.next 1 1 = some [.str t.name] := by rw [c2.load]; rfl
    have lm : w2.load bw 1 1 = some [.map mb] := by rw [(hc.frm hf2 fun h => h).load]; rfl
    have hcl : (x.args.take i).countP (argB bd) ≤ i := by have := List.countP_le_length (p := argB bd) (l := x.args.take i); rw [List.length_take] at this; omega
    have hwc : IntKind.wrap .i64 (Int.ofNat ((x.args.take i).countP (argB bd)) + 1) = Int.ofNat ((x.args.take i).countP (argB bd) + 1) := wrap_succ (by omega)
    have e : (x.args.take (i + 1)).countP (argB bd) = (x.args.take i).countP (argB bd) + (if argB bd t = true then 1 else 0) := by
      rw [take_snoc_of ht, List.countP_append]
      simp [List.countP_cons]
    by_cases hk : t.kind = 1
    case neg =>
      have hb : argB bd t = true := decide_eq_true (.inl hk)
      rw [if_pos hb] at e
      refine WS_run 1000 (by simp only [go_sem, eRun_exit, Nat.reduceAdd, Nat.reduceLT, Nat.reduceEqDiff, reduceIte, reduceCtorEq, Nat.reduceLeDiff, k_plan_work_count_p3, k_plan_work_count_p2, k_plan_work_count_p1, k_plan_work_count_p0, f5, f9, f10, f11, hlt, t3, s2, tmC_len, k0, hk, hwr, hwc]; rfl) ?_
      exact ih _ _ _ (by omega) ⟨i + 1, (by simp only [go_sem, eRun_exit, Nat.reduceAdd, Nat.reduceLT, Nat.reduceEqDiff, reduceIte, reduceCtorEq, Nat.reduceLeDiff, f0] <;> rfl), by rw [e]; exact (by simp only [go_sem, eRun_exit, Nat.reduceAdd, Nat.reduceLT, Nat.reduceEqDiff, reduceIte, reduceCtorEq, Nat.reduceLeDiff] <;> rfl), (by simp only [go_sem, eRun_exit, Nat.reduceAdd, Nat.reduceLT, Nat.reduceEqDiff, reduceIte, reduceCtorEq, Nat.reduceLeDiff, f9] <;> rfl), (by simp only [go_sem, eRun_exit, Nat.reduceAdd, Nat.reduceLT, Nat.reduceEqDiff, reduceIte, reduceCtorEq, Nat.reduceLeDiff, f10] <;> rfl), (by simp only [go_sem, eRun_exit, Nat.reduceAdd, Nat.reduceLT, Nat.reduceEqDiff, reduceIte, reduceCtorEq, Nat.reduceLeDiff] <;> rfl), by omega, rfl, hf2⟩
    have k0' : w2.load w.next 0 1 = some [.int .i64 1] := by rw [k0, hk]; rfl
    obtain ⟨n, hn1, hn2, hn3⟩ := seen_look hs t.name
    have look := (hM.frm hf2 fun h => h).look strKey (.int .i64 0) t.name
    rw [hn3] at look
    by_cases hm : n = 0
    · have hb : ¬ argB bd t = true := by simp [argB, hk, hn2.1 hm]
      rw [if_neg hb] at e
      subst hm
      refine WS_run 1000 (by simp only [go_sem, eRun_exit, Nat.reduceAdd, Nat.reduceLT, Nat.reduceEqDiff, reduceIte, reduceCtorEq, Nat.reduceLeDiff, k_plan_work_count_p3, k_plan_work_count_p2, k_plan_work_count_p1, f0, f9, f10, f11, hlt, t3, s2, tmC_len, k0', k1, lm, look, hwr, Nat.lt_irrefl]; rfl) ?_
      exact ih _ _ _ (by omega) ⟨i + 1, (by simp only [go_sem, eRun_exit, Nat.reduceAdd, Nat.reduceLT, Nat.reduceEqDiff, reduceIte, reduceCtorEq, Nat.reduceLeDiff, f0] <;> rfl), by rw [e]; exact (by simp only [go_sem, eRun_exit, Nat.reduceAdd, Nat.reduceLT, Nat.reduceEqDiff, reduceIte, reduceCtorEq, Nat.reduceLeDiff, f5] <;> rfl), (by simp only [go_sem, eRun_exit, Nat.reduceAdd, Nat.reduceLT, Nat.reduceEqDiff, reduceIte, reduceCtorEq, Nat.reduceLeDiff, f9] <;> rfl), (by simp only [go_sem, eRun_exit, Nat.reduceAdd, Nat.reduceLT, Nat.reduceEqDiff, reduceIte, reduceCtorEq, Nat.reduceLeDiff, f10] <;> rfl), (by simp only [go_sem, eRun_exit, Nat.reduceAdd, Nat.reduceLT, Nat.reduceEqDiff, reduceIte, reduceCtorEq, Nat.reduceLeDiff] <;> rfl), by omega, rfl, hf2⟩
    · have hin : t.name ∈ bd := Classical.byContradiction fun hc => hm (hn2.2 hc)
      have hb : argB bd t = true := decide_eq_true (.inr hin)
      rw [if_pos hb] at e
      have h0 : 0 < n := by omega
      refine WS_run 1000 (by simp only [go_sem, eRun_exit, Nat.reduceAdd, Nat.reduceLT, Nat.reduceEqDiff, reduceIte, reduceCtorEq, Nat.reduceLeDiff, k_plan_work_count_p3, k_plan_work_count_p2, k_plan_work_count_p1, k_plan_work_count_p0, f0, f5, f9, f10, f11, hlt, t3, s2, tmC_len, k0', k1, lm, look, h0, hwr, hwc]; rfl) ?_
      exact ih _ _ _ (by omega) ⟨i + 1, (by simp only [go_sem, eRun_exit, Nat.reduceAdd, Nat.reduceLT, Nat.reduceEqDiff, reduceIte, reduceCtorEq, Nat.reduceLeDiff, f0] <;> rfl), by rw [e]; exact (by simp only [go_sem, eRun_exit, Nat.reduceAdd, Nat.reduceLT, Nat.reduceEqDiff, reduceIte, reduceCtorEq, Nat.reduceLeDiff] <;> rfl), (by simp only [go_sem, eRun_exit, Nat.reduceAdd, Nat.reduceLT, Nat.reduceEqDiff, reduceIte, reduceCtorEq, Nat.reduceLeDiff, f9] <;> rfl), (by simp only [go_sem, eRun_exit, Nat.reduceAdd, Nat.reduceLT, Nat.reduceEqDiff, reduceIte, reduceCtorEq, Nat.reduceLeDiff, f10] <;> rfl), (by simp only [go_sem, eRun_exit, Nat.reduceAdd, Nat.reduceLT, Nat.reduceEqDiff, reduceIte, reduceCtorEq, Nat.reduceLeDiff] <;> rfl), by omega, rfl, hf2⟩
  · rintro f w ⟨f5, hf⟩
    refine WS_run 1000 (by simp only [go_sem, eRun_exit, Nat.reduceAdd, Nat.reduceLT, Nat.reduceEqDiff, reduceIte, reduceCtorEq, Nat.reduceLeDiff, f5]; rfl) ?_
    refine WS_ret ⟨_, by simp only [go_sem, eRun_exit, Nat.reduceAdd, Nat.reduceLT, Nat.reduceEqDiff, reduceIte, reduceCtorEq, Nat.reduceLeDiff, k_plan_work_count]; rfl, ?_⟩
    exact h w hf
end Go.Proofs.Ytjidefnbancmfaa

/- Plans: the work's best. -/
set_option linter.unusedVariables false
set_option maxRecDepth 10000
set_option linter.unusedSimpArgs false
namespace Go.Proofs.Ytjidefnbancmfaa
open Go.AE Delphi
variable {tab : Tab}
abbrev IM := MB (α := Int) (β := Int) (V.int .i64) (V.int .i64)
structure WkS (a w : AW) (T : Nat → Prop) (body : List Lt) (u : V) (bw mb md : Nat) (s : PlSt) (ov bv : V) (So Sb : Nat → Prop) (M : Ps) (D : List (Int × Int)) (k : Nat) : Prop where
  frm : Frm (fun _ => False) a w
  lits : RdL (LtC T) T a u 3 body
  cell : CB w bw [u, .map mb, .map md, ov, bv]
  mB : SM w mb M
  seen : Seen M s.2 k
  mD : IM w md D
  dn : ∀ j : Nat, aget D (Int.ofNat j) = if j ∈ s.1 then some 1 else none
  ord : Bt So w ov 1 s.1.length (natsC s.1)
  bnd : Bt Sb w bv 1 s.2.length (strsC s.2)
  ge : a.next ≤ bw ∧ a.next ≤ mb ∧ a.next ≤ md ∧ bw ≠ mb ∧ bw ≠ md ∧ mb ≠ md
  sepO : ∀ x, So x → a.next ≤ x ∧ x < w.next ∧ x ≠ bw ∧ x ≠ mb ∧ x ≠ md ∧ ¬ Sb x
  sepB : ∀ x, Sb x → a.next ≤ x ∧ x < w.next ∧ x ≠ bw ∧ x ≠ mb ∧ x ≠ md
  inv : PlInv body s
theorem WkS.ext {a w w2 : AW} {T : Nat → Prop} {body : List Lt} {u : V} {bw mb md k : Nat} {s : PlSt} {ov bv : V} {So Sb : Nat → Prop} {M : Ps} {D : List (Int × Int)} (h : WkS a w T body u bw mb md s ov bv So Sb M D k) (hf : Frm (fun _ => False) w w2) : WkS a w2 T body u bw mb md s ov bv So Sb M D k :=
  have nx := hf.next
  ⟨h.frm.tr hf, h.lits, h.cell.frm hf fun h => h, h.mB.frm hf fun h => h, h.seen, h.mD.frm hf fun h => h, h.dn, h.ord.frm hf fun _ _ h => h, h.bnd.frm hf fun _ _ h => h, h.ge, fun x hx => by have h1 := h.sepO x hx; exact ⟨h1.1, by omega, h1.2.2⟩, fun x hx => by have h1 := h.sepB x hx; exact ⟨h1.1, by omega, h1.2.2⟩, h.inv⟩
theorem WkS.lit {a w : AW} {T : Nat → Prop} {body : List Lt} {u : V} {bw mb md k : Nat} {s : PlSt} {ov bv : V} {So Sb : Nat → Prop} {M : Ps} {D : List (Int × Int)} (h : WkS a w T body u bw mb md s ov bv So Sb M D k) {i : Nat} {t : Lt} (hi : body[i]? = some t) :
    ∃ b o c v, u = .slice b o body.length c ∧ w.load b (o + i * 3) 3 = some [.int .i64 (Int.ofNat t.kind), .str t.name, v] ∧ w.load b (o + i * 3) 1 = some [.int .i64 (Int.ofNat t.kind)] ∧ w.load b (o + i * 3 + 2) 1 = some [v] ∧ Rd T w v 3 t.args.length (tmsC t.args) := by
  obtain ⟨b, o, c, v, h1, _, _, h2, h4, _, h5, h3⟩ := lits_at (h.lits.frm (fun _ _ hl => hl.frm h.frm fun _ _ h => h) h.frm fun _ _ h => h) hi
  exact ⟨b, o, c, v, h1, h2, h4, h5, h3⟩
theorem WkS.done {a w : AW} {T : Nat → Prop} {body : List Lt} {u : V} {bw mb md k : Nat} {s : PlSt} {ov bv : V} {So Sb : Nat → Prop} {M : Ps} {D : List (Int × Int)} (h : WkS a w T body u bw mb md s ov bv So Sb M D k) (i : Nat) :
    w.lookV (.scalar .int) (.int .i64 0) (.map md) (.int .i64 (Int.ofNat i)) = some (if i ∈ s.1 then (V.int .i64 1, true) else (V.int .i64 0, false)) := by
  rw [h.mD.look intKey (.int .i64 0) (Int.ofNat i), h.dn i]
  by_cases hm : i ∈ s.1
  · rw [if_pos hm, if_pos hm]; rfl
  · rw [if_neg hm, if_neg hm]; rfl
def BsI (a : AW) (T : Nat → Prop) (body : List Lt) (u : V) (bw mb md bq : Nat) (s : PlSt) (ov bv : V) (So Sb : Nat → Prop) (M : Ps) (D : List (Int × Int)) (k : Nat) (w0 : AW) (q : Nat) (f : Fr) (w : AW) : Prop :=
  ∃ i ks qv S, f.get 0 = some (.ptr bw 0) ∧ f.get 3 = some (.ptr bq 0) ∧ f.get 15 = some u ∧ f.get 16 = some (.int .i64 (Int.ofNat body.length)) ∧ f.get 17 = some (.int .i64 (Int.ofNat i)) ∧ i ≤ body.length ∧ q = body.length - i ∧
    CB w bq [qv] ∧ QQ S w qv ks ∧ (ks = [] ∨ MinQ ks) ∧ (∀ y, y ∈ ks ↔ ∃ j, j < i ∧ candB body s j = true ∧ y = keyP body s j) ∧ ks.length ≤ i ∧ (∀ y, S y → w0.next ≤ y ∧ y < w.next ∧ y ≠ bq) ∧ Frm (fun _ => False) w0 w ∧ WkS a w T body u bw mb md s ov bv So Sb M D k
/-- best. -/
theorem best_ok (C : Codes tab) {T : Nat → Prop} {a w0 : AW} {body : List Lt} {u : V} {bw mb md k : Nat} {s : PlSt} {ov bv : V} {So Sb : Nat → Prop} {M : Ps} {D : List (Int × Int)} {K : V → AW → Prop} (hA : WkS a w0 T body u bw mb md s ov bv So Sb M D k) (hb7 : body.length ≤ 7) (hargs : ∀ x ∈ body, x.args.length ≤ 5) (hex : ∃ i, candB body s i = true)
    (h : ∀ i w, IsBest body s i → Frm (fun _ => False) w0 w → K (.int .i64 (Int.ofNat i)) w) : WF tab n_plan_work_best [.ptr bw 0] w0 K := by
  refine WF_of C.c_plan_work_best rfl ?_
  have g1 := fresh_frm (S := fun _ => False) w0 []
  have m1 : (w0.fresh []).next = w0.next + 1 := rfl
  generalize hw1 : w0.fresh [] = w1 at g1 m1
  have g2 := fresh_frm (S := fun _ => False) w1 [V.slice w0.next 0 0 (.known 0)]
  have m2 : (w1.fresh [V.slice w0.next 0 0 (.known 0)]).next = w1.next + 1 := rfl
  have c2 := fresh_cb w1 [V.slice w0.next 0 0 (.known 0)]
  generalize hw2 : w1.fresh [V.slice w0.next 0 0 (.known 0)] = w2 at g2 m2 c2
  have hA2 := (hA.ext g1).ext g2
  have ld0 : w2.load bw 0 1 = some [u] := by rw [hA2.cell.load]; rfl
  have hlv := rdL_lenV hA.lits
  have hl0 : ([] : List V).length = 0 := rfl
  have hA0 := hA
  refine WS_run 1000 (by simp only [go_sem, eRun_exit, Nat.reduceAdd, Nat.reduceLT, Nat.reduceEqDiff, reduceIte, reduceCtorEq, Nat.reduceLeDiff, k_plan_work_best, k_plan_work_best_p6, evParts, fillV, hw1, hw2, ld0, hlv, List.length_nil]; rfl) ?_
  refine WS_loopJ (BsI a T body u bw mb md w1.next s ov bv So Sb M D k w0) (fun f w => ∃ ks qv S, f.get 3 = some (.ptr w1.next 0) ∧ CB w w1.next [qv] ∧ QQ S w qv ks ∧ (ks = [] ∨ MinQ ks) ∧ (∀ y, y ∈ ks ↔ ∃ j, candB body s j = true ∧ y = keyP body s j) ∧ ks.length ≤ 7 ∧ (∀ y, S y → w0.next ≤ y ∧ y < w.next ∧ y ≠ w1.next) ∧ Frm (fun _ => False) w0 w) ?_ ?_ body.length
    ⟨0, [], _, fun _ => False, (by simp only [go_sem, eRun_exit, Nat.reduceAdd, Nat.reduceLT, Nat.reduceEqDiff, reduceIte, reduceCtorEq, Nat.reduceLeDiff] <;> rfl), (by simp only [go_sem, eRun_exit, Nat.reduceAdd, Nat.reduceLT, Nat.reduceEqDiff, reduceIte, reduceCtorEq, Nat.reduceLeDiff] <;> rfl), (by simp only [go_sem, eRun_exit, Nat.reduceAdd, Nat.reduceLT, Nat.reduceEqDiff, reduceIte, reduceCtorEq, Nat.reduceLeDiff] <;> rfl), (by simp only [go_sem, eRun_exit, Nat.reduceAdd, Nat.reduceLT, Nat.reduceEqDiff, reduceIte, reduceCtorEq, Nat.reduceLeDiff] <;> rfl), (by simp only [go_sem, eRun_exit, Nat.reduceAdd, Nat.reduceLT, Nat.reduceEqDiff, reduceIte, reduceCtorEq, Nat.reduceLeDiff] <;> rfl), by omega, rfl, c2, .inl ⟨rfl, _, rfl⟩, .inl rfl, fun y => ⟨fun h => (by simp at h), fun ⟨j, hj, _⟩ => by omega⟩, by simp, fun _ h => h.elim, g1.tr g2, hA2⟩
  · rintro q f w ⟨i, ks, qv, S, f0, f3, f15, f16, f17, hi, rfl, hc, hQ, hm, hmem, hl, hS, hf, hA⟩ ih exit
    by_cases hlt : i < body.length
    case neg =>
      refine WS_runB 1000 (by simp only [go_sem, Nat.reduceAdd, Nat.reduceLT, Nat.reduceEqDiff, reduceIte, reduceCtorEq, Nat.reduceLeDiff, k_plan_work_best_p4, f16, f17, hlt]; rfl) ?_
      refine exit _ _ _ ⟨ks, qv, S, (by simp only [go_sem, eRun_exit, Nat.reduceAdd, Nat.reduceLT, Nat.reduceEqDiff, reduceIte, reduceCtorEq, Nat.reduceLeDiff, f3] <;> rfl), hc, hQ, hm, fun y => ?_, by omega, hS, hf⟩ rfl
      rw [hmem]
      exact ⟨fun ⟨j, _, h⟩ => ⟨j, h⟩, fun ⟨j, h1, h2⟩ => ⟨j, by have := candB_lt h1; omega, h1, h2⟩⟩
    obtain ⟨t, ht⟩ : ∃ t, body[i]? = some t := ⟨_, List.getElem?_eq_getElem hlt⟩
    have hla : litAt body i = t := litAt_some ht
    have ha5 := hargs t (List.mem_of_getElem? ht)
    have hwr : IntKind.wrap .i64 (Int.ofNat i + 1) = Int.ofNat (i + 1) := wrap_succ (by omega)
    obtain ⟨b, o, c, v, rfl, a3, _, _, hrv⟩ := hA.lit ht
    have hone : allOne [V.int .i64 (Int.ofNat t.kind), .str t.name, v] = true := by rcases hrv.inv with ⟨rfl, _⟩ | ⟨_, _, _, rfl, _⟩ <;> rfl
    obtain ⟨w3, s3, c3, r3, n3⟩ := boxed w (zs := [V.int .i64 0, V.str [], V.nilslice]) (vs := [V.int .i64 (Int.ofNat t.kind), .str t.name, v]) rfl hone
    have hA3 := hA.ext r3
    have k3 : w3.load w.next 0 3 = some [.int .i64 (Int.ofNat t.kind), .str t.name, v] := c3.all rfl
    refine WS_run 1000 (by simp only [go_sem, eRun_exit, Nat.reduceAdd, Nat.reduceLT, Nat.reduceEqDiff, reduceIte, reduceCtorEq, Nat.reduceLeDiff, k_plan_work_best_p4, k_plan_work_best_p3, k_plan_work_best_p2, f0, f15, f16, f17, hlt, a3, s3, k3, List.length_cons, List.length_nil]; rfl) ?_
    refine WS_call (by simp only [go_sem, eRun_exit, Nat.reduceAdd, Nat.reduceLT, Nat.reduceEqDiff, reduceIte, reduceCtorEq, Nat.reduceLeDiff]) (by simp only [go_sem, eRun_exit, Nat.reduceAdd, Nat.reduceLT, Nat.reduceEqDiff, reduceIte, reduceCtorEq, Nat.reduceLeDiff]; rfl) ?_
    refine count_ok C hA3.cell hA3.mB hA3.seen (x := t) ⟨v, rfl, hrv.frm r3 fun _ _ h => h⟩ (by omega) fun w4 g4 => ?_
    have hA4 := hA3.ext g4
    have c4 := c3.frm g4 fun h => h
    have k0 : w4.load w.next 0 1 = some [.int .i64 (Int.ofNat t.kind)] := by rw [c4.load]; rfl
    have k2 : w4.load w.next 2 1 = some [v] := by rw [c4.load]; rfl
    have lmd : w4.load bw 2 1 = some [.map md] := by rw [hA4.cell.load]; rfl
    have hvl := hrv.lenV
    have f34 : Frm (fun _ => False) w w4 := r3.tr g4
    have hc4 := hc.frm f34 fun h => h
    have nx4 := f34.next
    have hQ4 : QQ S w4 qv ks := hQ.imp (fun h => h) fun ⟨h1, h2⟩ => ⟨h1, h2.frm f34 fun _ _ h => h⟩
    have hS4 : ∀ y, S y → w0.next ≤ y ∧ y < w4.next ∧ y ≠ w1.next := fun y hy => by have := hS y hy; exact ⟨this.1, by omega, this.2.2⟩
    have hf4 := hf.tr f34
    have hdn := hA4.done i
    have skip : candB body s i = false → ∀ y, y ∈ ks ↔ ∃ j, j < i + 1 ∧ candB body s j = true ∧ y = keyP body s j := by
      intro hnc y
      rw [hmem]
      constructor
      · rintro ⟨j, h1, h2⟩; exact ⟨j, by omega, h2⟩
      · rintro ⟨j, h1, h2, h3⟩
        refine ⟨j, ?_, h2, h3⟩
        by_cases e : j = i
        · subst e; rw [hnc] at h2; cases h2
        · omega
    by_cases hd : i ∈ s.1
    · have hnc : candB body s i = false := not_cand fun h => h.2.1 hd
      rw [if_pos hd] at hdn
      refine WS_run 1000 (by simp only [go_sem, eRun_exit, Nat.reduceAdd, Nat.reduceLT, Nat.reduceEqDiff, reduceIte, reduceCtorEq, Nat.reduceLeDiff, k_plan_work_best_p1, f0, k0, lmd, hdn, f17, hwr]; rfl) ?_
      exact ih _ _ _ (by omega) ⟨i + 1, ks, qv, S, (by simp only [go_sem, eRun_exit, Nat.reduceAdd, Nat.reduceLT, Nat.reduceEqDiff, reduceIte, reduceCtorEq, Nat.reduceLeDiff, f0] <;> rfl), (by simp only [go_sem, eRun_exit, Nat.reduceAdd, Nat.reduceLT, Nat.reduceEqDiff, reduceIte, reduceCtorEq, Nat.reduceLeDiff, f3] <;> rfl), (by simp only [go_sem, eRun_exit, Nat.reduceAdd, Nat.reduceLT, Nat.reduceEqDiff, reduceIte, reduceCtorEq, Nat.reduceLeDiff, f15] <;> rfl), (by simp only [go_sem, eRun_exit, Nat.reduceAdd, Nat.reduceLT, Nat.reduceEqDiff, reduceIte, reduceCtorEq, Nat.reduceLeDiff, f16] <;> rfl), (by simp only [go_sem, eRun_exit, Nat.reduceAdd, Nat.reduceLT, Nat.reduceEqDiff, reduceIte, reduceCtorEq, Nat.reduceLeDiff] <;> rfl), by omega, rfl, hc4, hQ4, hm, skip hnc, by omega, hS4, hf4, hA4⟩
    rw [if_neg hd] at hdn
    have hxd : ∀ n a, ∀ y ∈ ks, y.2.2 ≠ ((a, n, i) : Ky).2.2 := by
      intro n a y hy
      obtain ⟨j, hj, _, rfl⟩ := (hmem y).1 hy
      show j ≠ i
      omega
    -- it goes into the queue
    have push : ∀ {fr : Fr} {n : Nat} {at' : Bool}, candB body s i = true → keyP body s i = (at', n, i) → fr.get 0 = some (.ptr bw 0) → fr.get 3 = some (.ptr w1.next 0) → fr.get 4 = some (.int .i64 (Int.ofNat i)) → fr.get 6 = some (.int .i64 (Int.ofNat n)) → fr.get 7 = some (.bool at') → fr.get 15 = some (.slice b o body.length c) → fr.get 16 = some (.int .i64 (Int.ofNat body.length)) → fr.get 17 = some (.int .i64 (Int.ofNat i)) →
        WS tab (.code k_plan_work_best_p0 :: .endB 1 :: .code (.region [⟨some 56, none, .bin .add (.tmp 17) (.const (.int .i64 1))⟩, ⟨some 17, none, .mov (.tmp 56)⟩]) :: .code (.loop k_plan_work_best_p4) :: .endB 0 :: [.code k_plan_work_best_p5]) fr w4 fun fr' a => ∃ vs, resV fr' a k_plan_work_best.results = some vs ∧ K (resOne vs) a := by
      intro fr n at' hcand hkey f0 f3 f4 f6 f7 f15 f16 f17
      have ov1 : over [V.int .i64 0, V.bool false, V.int .i64 0] 0 [V.int .i64 (Int.ofNat i)] = some [V.int .i64 (Int.ofNat i), V.bool false, V.int .i64 0] := rfl
      have ov2 : over [V.int .i64 (Int.ofNat i), V.bool false, V.int .i64 0] 1 [V.bool at'] = some [V.int .i64 (Int.ofNat i), V.bool at', V.int .i64 0] := rfl
      have ov3 : over [V.int .i64 (Int.ofNat i), V.bool at', V.int .i64 0] 2 [V.int .i64 (Int.ofNat n)] = some (kyC (at', n, i)) := rfl
      refine WS_run 1000 (by simp only [go_sem, eRun_exit, Nat.reduceAdd, Nat.reduceLT, Nat.reduceEqDiff, reduceIte, reduceCtorEq, Nat.reduceLeDiff, k_plan_work_best_p0, f3, f4, f6, f7, evParts, fillV, ov1, ov2, ov3, List.length_cons, List.length_nil]; rfl) ?_
      refine WS_call (by simp only [go_sem, eRun_exit, Nat.reduceAdd, Nat.reduceLT, Nat.reduceEqDiff, reduceIte, reduceCtorEq, Nat.reduceLeDiff]) (by simp only [go_sem, eRun_exit, Nat.reduceAdd, Nat.reduceLT, Nat.reduceEqDiff, reduceIte, reduceCtorEq, Nat.reduceLeDiff]; rfl) ?_
      refine hpush_ok C hc4 hQ4 (by omega) (fun y hy => (hS4 y hy).2) hm (hxd n at') fun w5 v5 S5 ks5 q1 q2 q3 q4 q5 q6 q7 => ?_
      have f5 : Frm (fun _ => False) w0 w5 := hf4.trans q3 (fun _ _ h => h) fun y hy h => by
        rcases h with h | rfl
        · have := (hS4 y h).1; omega
        · have := hc4.lt; omega
      have hA5 := hA0.ext f5
      have n5 := q3.next
      refine WS_run 1000 (by simp only [go_sem, eRun_exit, Nat.reduceAdd, Nat.reduceLT, Nat.reduceEqDiff, reduceIte, reduceCtorEq, Nat.reduceLeDiff, f17, hwr]; rfl) ?_
      refine ih _ _ _ (by omega) ⟨i + 1, ks5, v5, S5, (by simp only [go_sem, eRun_exit, Nat.reduceAdd, Nat.reduceLT, Nat.reduceEqDiff, reduceIte, reduceCtorEq, Nat.reduceLeDiff, f0] <;> rfl), (by simp only [go_sem, eRun_exit, Nat.reduceAdd, Nat.reduceLT, Nat.reduceEqDiff, reduceIte, reduceCtorEq, Nat.reduceLeDiff, f3] <;> rfl), (by simp only [go_sem, eRun_exit, Nat.reduceAdd, Nat.reduceLT, Nat.reduceEqDiff, reduceIte, reduceCtorEq, Nat.reduceLeDiff, f15] <;> rfl), (by simp only [go_sem, eRun_exit, Nat.reduceAdd, Nat.reduceLT, Nat.reduceEqDiff, reduceIte, reduceCtorEq, Nat.reduceLeDiff, f16] <;> rfl), (by simp only [go_sem, eRun_exit, Nat.reduceAdd, Nat.reduceLT, Nat.reduceEqDiff, reduceIte, reduceCtorEq, Nat.reduceLeDiff] <;> rfl), by omega, rfl, q1, .inr ⟨fun h => by rw [h] at q5; simp at q5, q2⟩, .inr q7, fun y => ?_, by omega, fun y hy => ?_, f5, hA5⟩
      · rw [q6, hmem]
        constructor
        · rintro (⟨j, h1, h2⟩ | rfl)
          · exact ⟨j, by omega, h2⟩
          · exact ⟨i, by omega, hcand, hkey.symm⟩
        · rintro ⟨j, h1, h2, rfl⟩
          by_cases e : j = i
          · subst e; exact .inr hkey
          · exact .inl ⟨j, by omega, h2, rfl⟩
      · obtain ⟨p1, p2, p3⟩ := q4 y hy
        have := hf4.next
        rcases p3 with p3 | p3
        · exact ⟨(hS4 y p3).1, p1, p2⟩
        · exact ⟨by omega, p1, p2⟩
    by_cases hk : t.kind = 1
    · have hcand : candB body s i = true := decide_eq_true ⟨hlt, hd, .inl (by rw [hla]; exact hk)⟩
      have k0' : w4.load w.next 0 1 = some [.int .i64 1] := by rw [k0, hk]; rfl
      refine WS_runB 1000 (by simp only [go_sem, eRun_exit, Nat.reduceAdd, Nat.reduceLT, Nat.reduceEqDiff, reduceIte, reduceCtorEq, Nat.reduceLeDiff, k_plan_work_best_p1, f0, k0', lmd, hdn, Nat.lt_irrefl]; rfl) ?_
      exact push (n := bndN s.2 t) (at' := true) hcand (by simp [keyP, hla, hk]) (by simp only [go_sem, eRun_exit, Nat.reduceAdd, Nat.reduceLT, Nat.reduceEqDiff, reduceIte, reduceCtorEq, Nat.reduceLeDiff, f0] <;> rfl) (by simp only [go_sem, eRun_exit, Nat.reduceAdd, Nat.reduceLT, Nat.reduceEqDiff, reduceIte, reduceCtorEq, Nat.reduceLeDiff, f3] <;> rfl) (by simp only [go_sem, eRun_exit, Nat.reduceAdd, Nat.reduceLT, Nat.reduceEqDiff, reduceIte, reduceCtorEq, Nat.reduceLeDiff] <;> rfl) (by simp only [go_sem, eRun_exit, Nat.reduceAdd, Nat.reduceLT, Nat.reduceEqDiff, reduceIte, reduceCtorEq, Nat.reduceLeDiff] <;> rfl) (by simp only [go_sem, eRun_exit, Nat.reduceAdd, Nat.reduceLT, Nat.reduceEqDiff, reduceIte, reduceCtorEq, Nat.reduceLeDiff] <;> rfl) (by simp only [go_sem, eRun_exit, Nat.reduceAdd, Nat.reduceLT, Nat.reduceEqDiff, reduceIte, reduceCtorEq, Nat.reduceLeDiff, f15] <;> rfl) (by simp only [go_sem, eRun_exit, Nat.reduceAdd, Nat.reduceLT, Nat.reduceEqDiff, reduceIte, reduceCtorEq, Nat.reduceLeDiff, f16] <;> rfl) (by simp only [go_sem, eRun_exit, Nat.reduceAdd, Nat.reduceLT, Nat.reduceEqDiff, reduceIte, reduceCtorEq, Nat.reduceLeDiff, f17] <;> rfl)
    · by_cases hlt2 : bndN s.2 t < t.args.length
      · have hnc : candB body s i = false := not_cand fun h => by rw [hla] at h; exact h.2.2.elim hk fun h => by omega
        refine WS_run 1000 (by simp only [go_sem, eRun_exit, Nat.reduceAdd, Nat.reduceLT, Nat.reduceEqDiff, reduceIte, reduceCtorEq, Nat.reduceLeDiff, k_plan_work_best_p1, f0, k0, hk, lmd, hdn, k2, hvl, hlt2, f17, hwr, Nat.lt_irrefl]; rfl) ?_
        exact ih _ _ _ (by omega) ⟨i + 1, ks, qv, S, (by simp only [go_sem, eRun_exit, Nat.reduceAdd, Nat.reduceLT, Nat.reduceEqDiff, reduceIte, reduceCtorEq, Nat.reduceLeDiff, f0] <;> rfl), (by simp only [go_sem, eRun_exit, Nat.reduceAdd, Nat.reduceLT, Nat.reduceEqDiff, reduceIte, reduceCtorEq, Nat.reduceLeDiff, f3] <;> rfl), (by simp only [go_sem, eRun_exit, Nat.reduceAdd, Nat.reduceLT, Nat.reduceEqDiff, reduceIte, reduceCtorEq, Nat.reduceLeDiff, f15] <;> rfl), (by simp only [go_sem, eRun_exit, Nat.reduceAdd, Nat.reduceLT, Nat.reduceEqDiff, reduceIte, reduceCtorEq, Nat.reduceLeDiff, f16] <;> rfl), (by simp only [go_sem, eRun_exit, Nat.reduceAdd, Nat.reduceLT, Nat.reduceEqDiff, reduceIte, reduceCtorEq, Nat.reduceLeDiff] <;> rfl), by omega, rfl, hc4, hQ4, hm, skip hnc, by omega, hS4, hf4, hA4⟩
      · have hle := bndN_le (bd := s.2) (x := t)
        have hcand : candB body s i = true := decide_eq_true ⟨hlt, hd, .inr (by rw [hla]; omega)⟩
        refine WS_runB 1000 (by simp only [go_sem, eRun_exit, Nat.reduceAdd, Nat.reduceLT, Nat.reduceEqDiff, reduceIte, reduceCtorEq, Nat.reduceLeDiff, k_plan_work_best_p1, f0, k0, hk, lmd, hdn, k2, hvl, hlt2, Nat.lt_irrefl]; rfl) ?_
        exact push (n := 0) (at' := false) hcand (by simp [keyP, hla, hk]) (by simp only [go_sem, eRun_exit, Nat.reduceAdd, Nat.reduceLT, Nat.reduceEqDiff, reduceIte, reduceCtorEq, Nat.reduceLeDiff, f0] <;> rfl) (by simp only [go_sem, eRun_exit, Nat.reduceAdd, Nat.reduceLT, Nat.reduceEqDiff, reduceIte, reduceCtorEq, Nat.reduceLeDiff, f3] <;> rfl) (by simp only [go_sem, eRun_exit, Nat.reduceAdd, Nat.reduceLT, Nat.reduceEqDiff, reduceIte, reduceCtorEq, Nat.reduceLeDiff] <;> rfl) (by simp only [go_sem, eRun_exit, Nat.reduceAdd, Nat.reduceLT, Nat.reduceEqDiff, reduceIte, reduceCtorEq, Nat.reduceLeDiff] <;> rfl) (by simp only [go_sem, eRun_exit, Nat.reduceAdd, Nat.reduceLT, Nat.reduceEqDiff, reduceIte, reduceCtorEq, Nat.reduceLeDiff] <;> rfl) (by simp only [go_sem, eRun_exit, Nat.reduceAdd, Nat.reduceLT, Nat.reduceEqDiff, reduceIte, reduceCtorEq, Nat.reduceLeDiff, f15] <;> rfl) (by simp only [go_sem, eRun_exit, Nat.reduceAdd, Nat.reduceLT, Nat.reduceEqDiff, reduceIte, reduceCtorEq, Nat.reduceLeDiff, f16] <;> rfl) (by simp only [go_sem, eRun_exit, Nat.reduceAdd, Nat.reduceLT, Nat.reduceEqDiff, reduceIte, reduceCtorEq, Nat.reduceLeDiff, f17] <;> rfl)
  · rintro f w ⟨ks, qv, S, f3, hc, hQ, hm, hmem, hl, hS, hf⟩
    rcases hQ with ⟨rfl, _⟩ | ⟨hne, hB⟩
    · obtain ⟨i, hi⟩ := hex
      have := (hmem (keyP body s i)).2 ⟨i, hi, rfl⟩
      simp at this
    rcases hm with rfl | ⟨m, hm0, hmin⟩
    · exact absurd rfl hne
    obtain ⟨n, hn⟩ : ∃ n, ks.length = n + 1 := ⟨ks.length - 1, by have := List.length_pos_iff.2 hne; omega⟩
    obtain ⟨j, hj, rfl⟩ := (hmem m).1 (List.mem_of_getElem? hm0)
    have hbest : IsBest body s j := by
      refine ⟨hj, fun j' hj' hn => ?_⟩
      rcases hmin _ ((hmem _).2 ⟨j', hj', rfl⟩) with h | h
      · exact absurd (congrArg (fun k : Ky => k.2.2) h) hn
      · exact h
    refine WS_run 1000 (by simp only [go_sem, eRun_exit, Nat.reduceAdd, Nat.reduceLT, Nat.reduceEqDiff, reduceIte, reduceCtorEq, Nat.reduceLeDiff, k_plan_work_best_p5, f3]; rfl) ?_
    refine WS_call (by simp only [go_sem, eRun_exit, Nat.reduceAdd, Nat.reduceLT, Nat.reduceEqDiff, reduceIte, reduceCtorEq, Nat.reduceLeDiff]) (by simp only [go_sem, eRun_exit, Nat.reduceAdd, Nat.reduceLT, Nat.reduceEqDiff, reduceIte, reduceCtorEq, Nat.reduceLeDiff]; rfl) ?_
    refine hpop_ok C hc hB hn (by omega) hm0 (fun h => (hS _ h).2.2 rfl) fun w3 f3 => ?_
    obtain ⟨w4, s4, c4, r4, n4⟩ := boxed w3 (zs := [V.int .i64 0, V.bool false, V.int .i64 0]) (vs := kyC (keyP body s j)) rfl rfl
    have l4 : w4.load w3.next 0 1 = some [.int .i64 (Int.ofNat j)] := by rw [c4.load]; rfl
    have kl : (kyC (keyP body s j)).length = 3 := rfl
    refine WS_run 1000 (by simp only [go_sem, eRun_exit, Nat.reduceAdd, Nat.reduceLT, Nat.reduceEqDiff, reduceIte, reduceCtorEq, Nat.reduceLeDiff, s4, l4, kl, List.length_cons, List.length_nil]; rfl) ?_
    refine WS_ret ⟨_, by simp only [go_sem, eRun_exit, Nat.reduceAdd, Nat.reduceLT, Nat.reduceEqDiff, reduceIte, reduceCtorEq, Nat.reduceLeDiff, k_plan_work_best]; rfl, ?_⟩
    refine h j w4 hbest ?_
    refine (hf.trans f3 (fun _ _ h => h) ?_).tr r4
    rintro y hy (h | rfl)
    · have := (hS y h).1; omega
    · omega
end Go.Proofs.Ytjidefnbancmfaa
