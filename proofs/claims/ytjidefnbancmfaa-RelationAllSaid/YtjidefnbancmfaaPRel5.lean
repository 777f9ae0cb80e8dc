/- Relation: matching, telling, copying. -/
import Derived.Test.YtjidefnbancmfaaPRel4
set_option linter.unusedVariables false
set_option linter.unusedSimpArgs false
namespace Go.Proofs.Ytjidefnbancmfaa
open Go.AE
variable {tab : Tab}
def fitsR : List Int → List Int → Bool
  | x :: l, n :: m => !(decide (0 < n) && x != n) && fitsR l m
  | _, _ => true
theorem fitsR_drop {x r : List Int} {i : Nat} {a n : Int} (h1 : x[i]? = some a) (h2 : r[i]? = some n) : fitsR (x.drop i) (r.drop i) = (!(decide (0 < n) && a != n) && fitsR (x.drop (i + 1)) (r.drop (i + 1))) := by
  have k1 : i < x.length := (List.getElem?_eq_some_iff.1 h1).1
  have k2 : i < r.length := (List.getElem?_eq_some_iff.1 h2).1
  rw [List.drop_eq_getElem_cons k1, List.drop_eq_getElem_cons k2]
  rw [List.getElem?_eq_getElem k1] at h1
  rw [List.getElem?_eq_getElem k2] at h2
  rw [Option.some.inj h1, Option.some.inj h2]; rfl
theorem fitsR_nil : ∀ (x : List Int), fitsR x [] = true
  | [] => rfl
  | _ :: _ => rfl
theorem fitsR_zero : ∀ (x : List Int) (k : Nat), fitsR x (List.replicate k 0) = true
  | [], 0 => rfl
  | [], k + 1 => rfl
  | _ :: _, 0 => rfl
  | _ :: l, k + 1 => by simp [List.replicate_succ, fitsR, fitsR_zero l k]
def FitI (xv rv : V) (x r : List Int) (aw : AW) (q : Nat) (f : Fr) (w : AW) : Prop :=
  ∃ i, f.get 0 = some xv ∧ f.get 7 = some rv ∧ f.get 8 = some (.int .i64 (Int.ofNat r.length)) ∧ f.get 9 = some (.int .i64 (Int.ofNat i)) ∧ w = aw ∧ fitsR x r = fitsR (x.drop i) (r.drop i) ∧ i ≤ r.length ∧ q = r.length - i
/-- fits. -/
theorem fits_ok (C : Codes tab) {T U : Nat → Prop} {xv rv : V} {x r : List Int} {aw : AW} {K : V → AW → Prop} (hx : RowV T aw xv x) (hr : RowV U aw rv r) (hl : x.length = r.length) (hlr : r.length ≤ 1000) (h : K (.bool (fitsR x r)) aw) : WF tab 57 [xv, rv] aw K := by
  refine WF_of C.c57 rfl ?_
  rcases hr.inv with ⟨rfl, rfl⟩ | ⟨b2, c2, rfl, _, _, hx2⟩
  · rw [fitsR_nil] at h
    refine WS_run 1000 (by simp only [go_sem, Nat.reduceAdd, Nat.reduceLT, Nat.reduceEqDiff, reduceIte, reduceCtorEq, Int.reduceBEq, Int.reduceBNe, Int.reduceLT, Int.reduceLE, Int.reduceGT, Int.reduceGE, Int.reduceEq, Int.reduceAdd, Int.reduceSub, Int.reduceMul, Nat.reduceMul, Nat.reduceSub, Nat.reduceLeDiff, k57]; rfl) ?_
    refine WS_loop1 ?_
    refine WS_run 1000 (by simp only [go_sem, Nat.reduceAdd, Nat.reduceLT, Nat.reduceEqDiff, reduceIte, reduceCtorEq, Int.reduceBEq, Int.reduceBNe, Int.reduceLT, Int.reduceLE, Int.reduceGT, Int.reduceGE, Int.reduceEq, Int.reduceAdd, Int.reduceSub, Int.reduceMul, Nat.reduceMul, Nat.reduceSub, Nat.reduceLeDiff, k57_1]; rfl) ?_
    refine WS_ret ⟨_, by simp only [go_sem, Nat.reduceAdd, Nat.reduceLT, Nat.reduceEqDiff, reduceIte, reduceCtorEq, Int.reduceBEq, Int.reduceBNe, Int.reduceLT, Int.reduceLE, Int.reduceGT, Int.reduceGE, Int.reduceEq, Int.reduceAdd, Int.reduceSub, Int.reduceMul, Nat.reduceMul, Nat.reduceSub, Nat.reduceLeDiff, k57]; rfl, ?_⟩
    exact h
  rcases hx.inv with ⟨rfl, rfl⟩ | ⟨b1, c1, rfl, _, _, hx1⟩
  · have : r = [] := List.length_eq_zero_iff.1 (by simpa using hl.symm)
    subst this
    refine WS_run 1000 (by simp only [go_sem, Nat.reduceAdd, Nat.reduceLT, Nat.reduceEqDiff, reduceIte, reduceCtorEq, Int.reduceBEq, Int.reduceBNe, Int.reduceLT, Int.reduceLE, Int.reduceGT, Int.reduceGE, Int.reduceEq, Int.reduceAdd, Int.reduceSub, Int.reduceMul, Nat.reduceMul, Nat.reduceSub, Nat.reduceLeDiff, k57, List.length_nil]; rfl) ?_
    refine WS_loop1 ?_
    refine WS_run 1000 (by simp only [go_sem, Nat.reduceAdd, Nat.reduceLT, Nat.reduceEqDiff, reduceIte, reduceCtorEq, Int.reduceBEq, Int.reduceBNe, Int.reduceLT, Int.reduceLE, Int.reduceGT, Int.reduceGE, Int.reduceEq, Int.reduceAdd, Int.reduceSub, Int.reduceMul, Nat.reduceMul, Nat.reduceSub, Nat.reduceLeDiff, k57_1, List.length_nil]; rfl) ?_
    refine WS_ret ⟨_, by simp only [go_sem, Nat.reduceAdd, Nat.reduceLT, Nat.reduceEqDiff, reduceIte, reduceCtorEq, Int.reduceBEq, Int.reduceBNe, Int.reduceLT, Int.reduceLE, Int.reduceGT, Int.reduceGE, Int.reduceEq, Int.reduceAdd, Int.reduceSub, Int.reduceMul, Nat.reduceMul, Nat.reduceSub, Nat.reduceLeDiff, k57]; rfl, ?_⟩
    exact h
  refine WS_run 1000 (by simp only [go_sem, Nat.reduceAdd, Nat.reduceLT, Nat.reduceEqDiff, reduceIte, reduceCtorEq, Int.reduceBEq, Int.reduceBNe, Int.reduceLT, Int.reduceLE, Int.reduceGT, Int.reduceGE, Int.reduceEq, Int.reduceAdd, Int.reduceSub, Int.reduceMul, Nat.reduceMul, Nat.reduceSub, Nat.reduceLeDiff, k57]; rfl) ?_
  refine WS_loop (FitI _ _ x r aw) ?_ r.length ⟨0, (by simp only [go_sem, Nat.reduceAdd, Nat.reduceLT, Nat.reduceEqDiff, reduceIte, reduceCtorEq, Int.reduceBEq, Int.reduceBNe, Int.reduceLT, Int.reduceLE, Int.reduceGT, Int.reduceGE, Int.reduceEq, Int.reduceAdd, Int.reduceSub, Int.reduceMul, Nat.reduceMul, Nat.reduceSub, Nat.reduceLeDiff] <;> rfl), (by simp only [go_sem, Nat.reduceAdd, Nat.reduceLT, Nat.reduceEqDiff, reduceIte, reduceCtorEq, Int.reduceBEq, Int.reduceBNe, Int.reduceLT, Int.reduceLE, Int.reduceGT, Int.reduceGE, Int.reduceEq, Int.reduceAdd, Int.reduceSub, Int.reduceMul, Nat.reduceMul, Nat.reduceSub, Nat.reduceLeDiff] <;> rfl), (by simp only [go_sem, Nat.reduceAdd, Nat.reduceLT, Nat.reduceEqDiff, reduceIte, reduceCtorEq, Int.reduceBEq, Int.reduceBNe, Int.reduceLT, Int.reduceLE, Int.reduceGT, Int.reduceGE, Int.reduceEq, Int.reduceAdd, Int.reduceSub, Int.reduceMul, Nat.reduceMul, Nat.reduceSub, Nat.reduceLeDiff] <;> rfl), (by simp only [go_sem, Nat.reduceAdd, Nat.reduceLT, Nat.reduceEqDiff, reduceIte, reduceCtorEq, Int.reduceBEq, Int.reduceBNe, Int.reduceLT, Int.reduceLE, Int.reduceGT, Int.reduceGE, Int.reduceEq, Int.reduceAdd, Int.reduceSub, Int.reduceMul, Nat.reduceMul, Nat.reduceSub, Nat.reduceLeDiff] <;> rfl), rfl, by simp, by omega, by omega⟩
  rintro q f w ⟨i, f0, f7, f8, f9, rfl, hc, hi, rfl⟩ ih
  by_cases hlt : i < r.length
  · have hlx : i < x.length := by omega
    have g1 : x[i]? = some x[i] := List.getElem?_eq_getElem hlx
    have g2 : r[i]? = some r[i] := List.getElem?_eq_getElem hlt
    have e1 := row_load hx1 g1
    have e2 := row_load hx2 g2
    rw [fitsR_drop g1 g2] at hc
    have hwr : IntKind.wrap .i64 (Int.ofNat i + 1) = Int.ofNat (i + 1) := wrap_succ (by omega)
    by_cases hp : r[i] > 0
    · have hp' : 0 < r[i] := hp
      by_cases he : x[i] = r[i]
      · have e3 : (x[i] != r[i]) = false := by simp [he]
        rw [e3, Bool.and_false, Bool.not_false, Bool.true_and] at hc
        refine WS_run 1000 (by simp only [go_sem, Nat.reduceAdd, Nat.reduceLT, Nat.reduceEqDiff, reduceIte, reduceCtorEq, Int.reduceBEq, Int.reduceBNe, Int.reduceLT, Int.reduceLE, Int.reduceGT, Int.reduceGE, Int.reduceEq, Int.reduceAdd, Int.reduceSub, Int.reduceMul, Nat.reduceMul, Nat.reduceSub, Nat.reduceLeDiff, k57_1, k57_0, f0, f7, f8, f9, hlt, hlx, e1, e2, hp, e3, hwr]; rfl) ?_
        exact ih _ _ _ (by omega) ⟨i + 1, (by simp only [go_sem, Nat.reduceAdd, Nat.reduceLT, Nat.reduceEqDiff, reduceIte, reduceCtorEq, Int.reduceBEq, Int.reduceBNe, Int.reduceLT, Int.reduceLE, Int.reduceGT, Int.reduceGE, Int.reduceEq, Int.reduceAdd, Int.reduceSub, Int.reduceMul, Nat.reduceMul, Nat.reduceSub, Nat.reduceLeDiff, f0] <;> rfl), (by simp only [go_sem, Nat.reduceAdd, Nat.reduceLT, Nat.reduceEqDiff, reduceIte, reduceCtorEq, Int.reduceBEq, Int.reduceBNe, Int.reduceLT, Int.reduceLE, Int.reduceGT, Int.reduceGE, Int.reduceEq, Int.reduceAdd, Int.reduceSub, Int.reduceMul, Nat.reduceMul, Nat.reduceSub, Nat.reduceLeDiff, f7] <;> rfl), (by simp only [go_sem, Nat.reduceAdd, Nat.reduceLT, Nat.reduceEqDiff, reduceIte, reduceCtorEq, Int.reduceBEq, Int.reduceBNe, Int.reduceLT, Int.reduceLE, Int.reduceGT, Int.reduceGE, Int.reduceEq, Int.reduceAdd, Int.reduceSub, Int.reduceMul, Nat.reduceMul, Nat.reduceSub, Nat.reduceLeDiff, f8] <;> rfl), (by simp only [go_sem, Nat.reduceAdd, Nat.reduceLT, Nat.reduceEqDiff, reduceIte, reduceCtorEq, Int.reduceBEq, Int.reduceBNe, Int.reduceLT, Int.reduceLE, Int.reduceGT, Int.reduceGE, Int.reduceEq, Int.reduceAdd, Int.reduceSub, Int.reduceMul, Nat.reduceMul, Nat.reduceSub, Nat.reduceLeDiff] <;> rfl), rfl, hc, by omega, rfl⟩
      · have e3 : (x[i] != r[i]) = true := by simp [he]
        rw [e3, decide_eq_true hp', Bool.and_true, Bool.not_true, Bool.false_and] at hc
        rw [hc] at h
        refine WS_run 1000 (by simp only [go_sem, Nat.reduceAdd, Nat.reduceLT, Nat.reduceEqDiff, reduceIte, reduceCtorEq, Int.reduceBEq, Int.reduceBNe, Int.reduceLT, Int.reduceLE, Int.reduceGT, Int.reduceGE, Int.reduceEq, Int.reduceAdd, Int.reduceSub, Int.reduceMul, Nat.reduceMul, Nat.reduceSub, Nat.reduceLeDiff, k57_1, k57_0, f0, f7, f8, f9, hlt, hlx, e1, e2, hp, e3, hwr]; rfl) ?_
        refine WS_ret ⟨_, by simp only [go_sem, Nat.reduceAdd, Nat.reduceLT, Nat.reduceEqDiff, reduceIte, reduceCtorEq, Int.reduceBEq, Int.reduceBNe, Int.reduceLT, Int.reduceLE, Int.reduceGT, Int.reduceGE, Int.reduceEq, Int.reduceAdd, Int.reduceSub, Int.reduceMul, Nat.reduceMul, Nat.reduceSub, Nat.reduceLeDiff, k57]; rfl, ?_⟩
        exact h
    · have hp' : ¬ 0 < r[i] := hp
      rw [decide_eq_false hp', Bool.false_and, Bool.not_false, Bool.true_and] at hc
      refine WS_run 1000 (by simp only [go_sem, Nat.reduceAdd, Nat.reduceLT, Nat.reduceEqDiff, reduceIte, reduceCtorEq, Int.reduceBEq, Int.reduceBNe, Int.reduceLT, Int.reduceLE, Int.reduceGT, Int.reduceGE, Int.reduceEq, Int.reduceAdd, Int.reduceSub, Int.reduceMul, Nat.reduceMul, Nat.reduceSub, Nat.reduceLeDiff, k57_1, k57_0, f0, f7, f8, f9, hlt, hlx, e1, e2, hp, hwr]; rfl) ?_
      exact ih _ _ _ (by omega) ⟨i + 1, (by simp only [go_sem, Nat.reduceAdd, Nat.reduceLT, Nat.reduceEqDiff, reduceIte, reduceCtorEq, Int.reduceBEq, Int.reduceBNe, Int.reduceLT, Int.reduceLE, Int.reduceGT, Int.reduceGE, Int.reduceEq, Int.reduceAdd, Int.reduceSub, Int.reduceMul, Nat.reduceMul, Nat.reduceSub, Nat.reduceLeDiff, f0] <;> rfl), (by simp only [go_sem, Nat.reduceAdd, Nat.reduceLT, Nat.reduceEqDiff, reduceIte, reduceCtorEq, Int.reduceBEq, Int.reduceBNe, Int.reduceLT, Int.reduceLE, Int.reduceGT, Int.reduceGE, Int.reduceEq, Int.reduceAdd, Int.reduceSub, Int.reduceMul, Nat.reduceMul, Nat.reduceSub, Nat.reduceLeDiff, f7] <;> rfl), (by simp only [go_sem, Nat.reduceAdd, Nat.reduceLT, Nat.reduceEqDiff, reduceIte, reduceCtorEq, Int.reduceBEq, Int.reduceBNe, Int.reduceLT, Int.reduceLE, Int.reduceGT, Int.reduceGE, Int.reduceEq, Int.reduceAdd, Int.reduceSub, Int.reduceMul, Nat.reduceMul, Nat.reduceSub, Nat.reduceLeDiff, f8] <;> rfl), (by simp only [go_sem, Nat.reduceAdd, Nat.reduceLT, Nat.reduceEqDiff, reduceIte, reduceCtorEq, Int.reduceBEq, Int.reduceBNe, Int.reduceLT, Int.reduceLE, Int.reduceGT, Int.reduceGE, Int.reduceEq, Int.reduceAdd, Int.reduceSub, Int.reduceMul, Nat.reduceMul, Nat.reduceSub, Nat.reduceLeDiff] <;> rfl), rfl, hc, by omega, rfl⟩
  · rw [List.drop_eq_nil_of_le (by omega : r.length ≤ i), fitsR_nil] at hc
    rw [hc] at h
    refine WS_run 1000 (by simp only [go_sem, Nat.reduceAdd, Nat.reduceLT, Nat.reduceEqDiff, reduceIte, reduceCtorEq, Int.reduceBEq, Int.reduceBNe, Int.reduceLT, Int.reduceLE, Int.reduceGT, Int.reduceGE, Int.reduceEq, Int.reduceAdd, Int.reduceSub, Int.reduceMul, Nat.reduceMul, Nat.reduceSub, Nat.reduceLeDiff, k57_1, f0, f7, f8, f9, hlt]; rfl) ?_
    refine WS_ret ⟨_, by simp only [go_sem, Nat.reduceAdd, Nat.reduceLT, Nat.reduceEqDiff, reduceIte, reduceCtorEq, Int.reduceBEq, Int.reduceBNe, Int.reduceLT, Int.reduceLE, Int.reduceGT, Int.reduceGE, Int.reduceEq, Int.reduceAdd, Int.reduceSub, Int.reduceMul, Nat.reduceMul, Nat.reduceSub, Nat.reduceLeDiff, k57]; rfl, ?_⟩
    exact h
/-- a list of rows of one's own, all of it from N on. -/
def ListOf (N : Nat) (w : AW) (v : V) (rows : List (List Int)) (cs : List V) (S T : Nat → Prop) : Prop :=
  Buf S w v 1 rows.length cs ∧ RowsV T w cs rows ∧ (∀ x, S x → N ≤ x ∧ x < w.next ∧ ¬ T x) ∧ (∀ x, T x → N ≤ x ∧ x < w.next)
def MatI (lv pv : V) (rows : List (List Int)) (pat : List Int) (aw : AW) (q : Nat) (f : Fr) (w : AW) : Prop :=
  ∃ i v cs S T, f.get 1 = some pv ∧ f.get 22 = some lv ∧ f.get 23 = some (.int .i64 (Int.ofNat rows.length)) ∧ f.get 24 = some (.int .i64 (Int.ofNat i)) ∧ f.get 5 = some v ∧ ListOf aw.next w v ((rows.take i).filter fun x => fitsR x pat) cs S T ∧ Frm (fun _ => False) aw w ∧ i ≤ rows.length ∧ q = rows.length - i
theorem take_succ_filter {rows : List (List Int)} {i : Nat} {x : List Int} {p : List Int → Bool} (h : rows[i]? = some x) : (rows.take (i + 1)).filter p = (rows.take i).filter p ++ if p x then [x] else [] := by
  rw [List.take_add_one, h, List.filter_append]
  simp only [Option.toList_some]
  by_cases hp : p x <;> simp [hp]
/-- (*Set).Match. -/
theorem match_ok (C : Codes tab) {S U : Nat → Prop} {p pv : V} {width : Nat} {rows : List (List Int)} {pat : List Int} {aw : AW} {K : V → AW → Prop} (hs : SetOf S aw p width rows) (hr : RowV U aw pv pat) (hn : rows.length ≤ 1000000) (hlr : pat.length ≤ 1000)
    (h1 : pat.length ≠ width → K .nilslice aw) (h2 : pat.length = width → ∀ v w cs S1 T1, ListOf aw.next w v (rows.filter fun x => fitsR x pat) cs S1 T1 → Frm (fun _ => False) aw w → K v w) : WF tab 37 [p, pv] aw K := by
  obtain ⟨bp, lv, cs, S0, T, rfl, hs⟩ := hs
  refine WF_of C.c37 rfl ?_
  have e0 := hs.load0
  have e1 := hs.load1
  have begun : pat.length = width → ∀ fr : Fr, fr.get 1 = some pv → fr.get 22 = some lv → fr.get 23 = some (.int .i64 (Int.ofNat rows.length)) → fr.get 24 = some (.int .i64 (Int.ofNat 0)) → fr.get 5 = some .nilslice →
      WS tab [.code (.loop k37_2), .endB 0, .code (.seq (.region [⟨some 37, none, .mov (.tmp 5)⟩, ⟨some 4, none, .mov (.tmp 37)⟩]) .ret)] fr aw (fun fr' aw' => ∃ vs, resV fr' aw' k37.results = some vs ∧ K (resOne vs) aw') := by
    intro hw fr f1 f22 f23 f24 f5
    refine WS_loop (MatI lv pv rows pat aw) ?_ rows.length ⟨0, .nilslice, [], fun _ => False, fun _ => False, f1, f22, f23, f24, f5, ⟨.nil, ⟨rfl, fun i v l h => by simp at h⟩, fun _ h => h.elim, fun _ h => h.elim⟩, Frm.refl _, by omega, rfl⟩
    clear f1 f22 f23 f24 f5
    rintro q f w ⟨i, v, vs, S1, T1, f1, f22, f23, f24, f5, ⟨hb1, hv1, hS1, hT1⟩, hf, hi, rfl⟩ ih
    have hsw := hs.frm hf fun _ _ h => h
    by_cases hlt : i < rows.length
    · have g1 : rows[i]? = some rows[i] := List.getElem?_eq_getElem hlt
      obtain ⟨xv, g2, g3⟩ := hsw.hv.at g1
      have hwr : IntKind.wrap .i64 (Int.ofNat i + 1) = Int.ofNat (i + 1) := wrap_succ (by omega)
      have hwx := hs.wid _ (List.mem_of_getElem? g1)
      have hrw := hr.frm hf fun _ _ h => h
      rcases hsw.hb.inv with ⟨_, h0, _⟩ | ⟨b, rfl, hSb, _⟩
      · omega
      have ld := hsw.hb.load1 g2
      refine WS_run 1000 (by simp only [go_sem, Nat.reduceAdd, Nat.reduceLT, Nat.reduceEqDiff, reduceIte, reduceCtorEq, Int.reduceBEq, Int.reduceBNe, Int.reduceLT, Int.reduceLE, Int.reduceGT, Int.reduceGE, Int.reduceEq, Int.reduceAdd, Int.reduceSub, Int.reduceMul, Nat.reduceMul, Nat.reduceSub, Nat.reduceLeDiff, k37_2, k37_1, k37_0, f1, f22, f23, f24, f5, hlt, ld]; rfl) ?_
      refine WS_call (by simp only [go_sem, Nat.reduceAdd, Nat.reduceLT, Nat.reduceEqDiff, reduceIte, reduceCtorEq, Int.reduceBEq, Int.reduceBNe, Int.reduceLT, Int.reduceLE, Int.reduceGT, Int.reduceGE, Int.reduceEq, Int.reduceAdd, Int.reduceSub, Int.reduceMul, Nat.reduceMul, Nat.reduceSub, Nat.reduceLeDiff]) (by simp only [go_sem, Nat.reduceAdd, Nat.reduceLT, Nat.reduceEqDiff, reduceIte, reduceCtorEq, Int.reduceBEq, Int.reduceBNe, Int.reduceLT, Int.reduceLE, Int.reduceGT, Int.reduceGE, Int.reduceEq, Int.reduceAdd, Int.reduceSub, Int.reduceMul, Nat.reduceMul, Nat.reduceSub, Nat.reduceLeDiff]; rfl) ?_
      refine fits_ok C g3 hrw (by omega) hlr ?_
      by_cases hp : fitsR rows[i] pat = true
      · refine WS_run 1000 (by simp only [go_sem, Nat.reduceAdd, Nat.reduceLT, Nat.reduceEqDiff, reduceIte, reduceCtorEq, Int.reduceBEq, Int.reduceBNe, Int.reduceLT, Int.reduceLE, Int.reduceGT, Int.reduceGE, Int.reduceEq, Int.reduceAdd, Int.reduceSub, Int.reduceMul, Nat.reduceMul, Nat.reduceSub, Nat.reduceLeDiff, hp, f1, f22, f23, f24, f5]; rfl) ?_
        refine WS_call (by simp only [go_sem, Nat.reduceAdd, Nat.reduceLT, Nat.reduceEqDiff, reduceIte, reduceCtorEq, Int.reduceBEq, Int.reduceBNe, Int.reduceLT, Int.reduceLE, Int.reduceGT, Int.reduceGE, Int.reduceEq, Int.reduceAdd, Int.reduceSub, Int.reduceMul, Nat.reduceMul, Nat.reduceSub, Nat.reduceLeDiff]) (by simp only [go_sem, Nat.reduceAdd, Nat.reduceLT, Nat.reduceEqDiff, reduceIte, reduceCtorEq, Int.reduceBEq, Int.reduceBNe, Int.reduceLT, Int.reduceLE, Int.reduceGT, Int.reduceGE, Int.reduceEq, Int.reduceAdd, Int.reduceSub, Int.reduceMul, Nat.reduceMul, Nat.reduceSub, Nat.reduceLeDiff]; rfl) ?_
        refine clone_ok C g3 (by omega) fun v' w' hv' hf' => ?_
        have hvc := hv'.cells
        have hfa : Frm (fun _ => False) w (w'.fresh [v']) := hf'.trans (Frm.new _ _) (fun _ _ h => h) fun _ _ h => h
        have hel : (w'.fresh [v']).elems 1 (.slice w'.next 0 1 (.known 1)) = some (1, [v']) := by
          simp only [AW.elems, AW.load, AW.fresh, AW.new, AE.T.get_putk, if_true, AW.alive, List.drop_zero, takeN]
        have hlen : ((rows.take i).filter fun x => fitsR x pat).length ≤ rows.length := Nat.le_trans (List.length_filter_le _ _) (by rw [List.length_take]; omega)
        obtain ⟨v2, w2, S2, q1, q2, q3, q4⟩ := (hb1.frm hfa fun _ _ h => h).add (news := [v']) (bytes := 24) (by omega) rfl (by simp [allOne, hv'.isOne]) (by omega) (by omega)
        have hnx : (w'.fresh [v']).next = w'.next + 1 := rfl
        have hn1 := hf.next
        have hn2 := hf'.next
        have hn3 := q3.next
        refine WS_run 1000 (by simp only [go_sem, Nat.reduceAdd, Nat.reduceLT, Nat.reduceEqDiff, reduceIte, reduceCtorEq, Int.reduceBEq, Int.reduceBNe, Int.reduceLT, Int.reduceLE, Int.reduceGT, Int.reduceGE, Int.reduceEq, Int.reduceAdd, Int.reduceSub, Int.reduceMul, Nat.reduceMul, Nat.reduceSub, Nat.reduceLeDiff, evParts, fillV, over, hvc, List.length_cons, List.length_nil, hel, q1, f1, f22, f23, f24, f5, hwr]; rfl) ?_
        refine ih (rows.length - (i + 1)) _ _ (by omega) ⟨i + 1, v2, vs ++ [v'], S2, fun x => T1 x ∨ (w.next ≤ x ∧ x < w'.next), (by simp only [go_sem, Nat.reduceAdd, Nat.reduceLT, Nat.reduceEqDiff, reduceIte, reduceCtorEq, Int.reduceBEq, Int.reduceBNe, Int.reduceLT, Int.reduceLE, Int.reduceGT, Int.reduceGE, Int.reduceEq, Int.reduceAdd, Int.reduceSub, Int.reduceMul, Nat.reduceMul, Nat.reduceSub, Nat.reduceLeDiff, f1] <;> rfl), (by simp only [go_sem, Nat.reduceAdd, Nat.reduceLT, Nat.reduceEqDiff, reduceIte, reduceCtorEq, Int.reduceBEq, Int.reduceBNe, Int.reduceLT, Int.reduceLE, Int.reduceGT, Int.reduceGE, Int.reduceEq, Int.reduceAdd, Int.reduceSub, Int.reduceMul, Nat.reduceMul, Nat.reduceSub, Nat.reduceLeDiff, f22] <;> rfl), (by simp only [go_sem, Nat.reduceAdd, Nat.reduceLT, Nat.reduceEqDiff, reduceIte, reduceCtorEq, Int.reduceBEq, Int.reduceBNe, Int.reduceLT, Int.reduceLE, Int.reduceGT, Int.reduceGE, Int.reduceEq, Int.reduceAdd, Int.reduceSub, Int.reduceMul, Nat.reduceMul, Nat.reduceSub, Nat.reduceLeDiff, f23] <;> rfl), (by simp only [go_sem, Nat.reduceAdd, Nat.reduceLT, Nat.reduceEqDiff, reduceIte, reduceCtorEq, Int.reduceBEq, Int.reduceBNe, Int.reduceLT, Int.reduceLE, Int.reduceGT, Int.reduceGE, Int.reduceEq, Int.reduceAdd, Int.reduceSub, Int.reduceMul, Nat.reduceMul, Nat.reduceSub, Nat.reduceLeDiff] <;> rfl), (by simp only [go_sem, Nat.reduceAdd, Nat.reduceLT, Nat.reduceEqDiff, reduceIte, reduceCtorEq, Int.reduceBEq, Int.reduceBNe, Int.reduceLT, Int.reduceLE, Int.reduceGT, Int.reduceGE, Int.reduceEq, Int.reduceAdd, Int.reduceSub, Int.reduceMul, Nat.reduceMul, Nat.reduceSub, Nat.reduceLeDiff] <;> rfl), ⟨?_, ?_, ?_, ?_⟩, ?_, by omega, rfl⟩
        · rw [take_succ_filter g1, if_pos hp, List.length_append]; exact q2
        · rw [take_succ_filter g1, if_pos hp]
          have a1 : RowsV T1 w2 vs _ := (hv1.frm hfa fun _ _ h => h).frm q3 fun x hx h => (hS1 x h).2.2 hx
          have a2 : RowV (fun b => w.next ≤ b ∧ b < w'.next) w2 v' rows[i] := (hv'.frm (w' := w'.fresh [v']) (S := fun _ => False) (Frm.new _ _) fun _ _ h => h).frm q3 fun x hx h => by have := (hS1 x h).2.1; omega
          have hl1 := hv1.1
          refine ⟨by simp [hl1], fun k y l hy hl => ?_⟩
          by_cases hk : k < vs.length
          · rw [List.getElem?_append_left hk] at hy
            rw [List.getElem?_append_left (by omega)] at hl
            exact (a1.2 k y l hy hl).mono fun _ h => .inl h
          · rw [List.getElem?_append_right (by omega)] at hy hl
            rw [← hl1] at hl
            cases hkk : k - vs.length with
            | zero => rw [hkk] at hy hl; simp at hy hl; rw [← hy, ← hl]; exact a2.mono fun _ h => .inr h
            | succ m => rw [hkk] at hy; simp at hy
        · intro x hx
          obtain ⟨m1, m2⟩ := q4 x hx
          rcases m2 with m2 | m2
          · have := hS1 x m2
            exact ⟨this.1, m1, fun h => h.elim this.2.2 fun h => by omega⟩
          · refine ⟨by omega, m1, fun h => h.elim (fun h => ?_) fun h => by omega⟩
            have := hT1 x h; omega
        · rintro x (h | h)
          · have := hT1 x h; omega
          · omega
        · refine (hf.trans hfa (fun _ _ h => h) fun _ _ h => h).trans q3 (fun _ _ h => h) fun x hx h => ?_
          have := (hS1 x h).1; omega
      · have hp' : fitsR rows[i] pat = false := by simpa using hp
        refine WS_run 1000 (by simp only [go_sem, Nat.reduceAdd, Nat.reduceLT, Nat.reduceEqDiff, reduceIte, reduceCtorEq, Int.reduceBEq, Int.reduceBNe, Int.reduceLT, Int.reduceLE, Int.reduceGT, Int.reduceGE, Int.reduceEq, Int.reduceAdd, Int.reduceSub, Int.reduceMul, Nat.reduceMul, Nat.reduceSub, Nat.reduceLeDiff, hp', f1, f22, f23, f24, f5, hwr]; rfl) ?_
        refine ih (rows.length - (i + 1)) _ _ (by omega) ⟨i + 1, v, vs, S1, T1, (by simp only [go_sem, Nat.reduceAdd, Nat.reduceLT, Nat.reduceEqDiff, reduceIte, reduceCtorEq, Int.reduceBEq, Int.reduceBNe, Int.reduceLT, Int.reduceLE, Int.reduceGT, Int.reduceGE, Int.reduceEq, Int.reduceAdd, Int.reduceSub, Int.reduceMul, Nat.reduceMul, Nat.reduceSub, Nat.reduceLeDiff, f1] <;> rfl), (by simp only [go_sem, Nat.reduceAdd, Nat.reduceLT, Nat.reduceEqDiff, reduceIte, reduceCtorEq, Int.reduceBEq, Int.reduceBNe, Int.reduceLT, Int.reduceLE, Int.reduceGT, Int.reduceGE, Int.reduceEq, Int.reduceAdd, Int.reduceSub, Int.reduceMul, Nat.reduceMul, Nat.reduceSub, Nat.reduceLeDiff, f22] <;> rfl), (by simp only [go_sem, Nat.reduceAdd, Nat.reduceLT, Nat.reduceEqDiff, reduceIte, reduceCtorEq, Int.reduceBEq, Int.reduceBNe, Int.reduceLT, Int.reduceLE, Int.reduceGT, Int.reduceGE, Int.reduceEq, Int.reduceAdd, Int.reduceSub, Int.reduceMul, Nat.reduceMul, Nat.reduceSub, Nat.reduceLeDiff, f23] <;> rfl), (by simp only [go_sem, Nat.reduceAdd, Nat.reduceLT, Nat.reduceEqDiff, reduceIte, reduceCtorEq, Int.reduceBEq, Int.reduceBNe, Int.reduceLT, Int.reduceLE, Int.reduceGT, Int.reduceGE, Int.reduceEq, Int.reduceAdd, Int.reduceSub, Int.reduceMul, Nat.reduceMul, Nat.reduceSub, Nat.reduceLeDiff] <;> rfl), (by simp only [go_sem, Nat.reduceAdd, Nat.reduceLT, Nat.reduceEqDiff, reduceIte, reduceCtorEq, Int.reduceBEq, Int.reduceBNe, Int.reduceLT, Int.reduceLE, Int.reduceGT, Int.reduceGE, Int.reduceEq, Int.reduceAdd, Int.reduceSub, Int.reduceMul, Nat.reduceMul, Nat.reduceSub, Nat.reduceLeDiff, f5] <;> rfl), ?_, hf, by omega, rfl⟩
        rw [take_succ_filter g1, if_neg (by simp [hp']), List.append_nil]
        exact ⟨hb1, hv1, hS1, hT1⟩
    · have e : rows.take i = rows := List.take_of_length_le (by omega)
      rw [e] at hb1 hv1
      refine WS_run 1000 (by simp only [go_sem, Nat.reduceAdd, Nat.reduceLT, Nat.reduceEqDiff, reduceIte, reduceCtorEq, Int.reduceBEq, Int.reduceBNe, Int.reduceLT, Int.reduceLE, Int.reduceGT, Int.reduceGE, Int.reduceEq, Int.reduceAdd, Int.reduceSub, Int.reduceMul, Nat.reduceMul, Nat.reduceSub, Nat.reduceLeDiff, k37_2, f1, f22, f23, f24, f5, hlt]; rfl) ?_
      refine WS_ret ⟨_, by simp only [go_sem, Nat.reduceAdd, Nat.reduceLT, Nat.reduceEqDiff, reduceIte, reduceCtorEq, Int.reduceBEq, Int.reduceBNe, Int.reduceLT, Int.reduceLE, Int.reduceGT, Int.reduceGE, Int.reduceEq, Int.reduceAdd, Int.reduceSub, Int.reduceMul, Nat.reduceMul, Nat.reduceSub, Nat.reduceLeDiff, k37, f5]; rfl, ?_⟩
      exact h2 hw _ _ _ _ _ ⟨hb1, hv1, hS1, hT1⟩ hf
  rcases hr.inv with ⟨rfl, rfl⟩ | ⟨b, c, rfl, _⟩
  · by_cases hw : width = 0
    · subst hw
      have e2 : ((0 : Int) != Int.ofNat 0) = false := rfl
      rcases hs.hb.inv with ⟨rfl, h0, _⟩ | ⟨b, rfl, hSb, _⟩
      · rw [h0] at begun
        refine WS_run 1000 (by simp only [go_sem, Nat.reduceAdd, Nat.reduceLT, Nat.reduceEqDiff, reduceIte, reduceCtorEq, Int.reduceBEq, Int.reduceBNe, Int.reduceLT, Int.reduceLE, Int.reduceGT, Int.reduceGE, Int.reduceEq, Int.reduceAdd, Int.reduceSub, Int.reduceMul, Nat.reduceMul, Nat.reduceSub, Nat.reduceLeDiff, k37, eqV, e0, e1, e2]; rfl) ?_
        exact begun rfl _ (by simp only [go_sem, Nat.reduceAdd, Nat.reduceLT, Nat.reduceEqDiff, reduceIte, reduceCtorEq, Int.reduceBEq, Int.reduceBNe, Int.reduceLT, Int.reduceLE, Int.reduceGT, Int.reduceGE, Int.reduceEq, Int.reduceAdd, Int.reduceSub, Int.reduceMul, Nat.reduceMul, Nat.reduceSub, Nat.reduceLeDiff] <;> rfl) (by simp only [go_sem, Nat.reduceAdd, Nat.reduceLT, Nat.reduceEqDiff, reduceIte, reduceCtorEq, Int.reduceBEq, Int.reduceBNe, Int.reduceLT, Int.reduceLE, Int.reduceGT, Int.reduceGE, Int.reduceEq, Int.reduceAdd, Int.reduceSub, Int.reduceMul, Nat.reduceMul, Nat.reduceSub, Nat.reduceLeDiff] <;> rfl) (by simp only [go_sem, Nat.reduceAdd, Nat.reduceLT, Nat.reduceEqDiff, reduceIte, reduceCtorEq, Int.reduceBEq, Int.reduceBNe, Int.reduceLT, Int.reduceLE, Int.reduceGT, Int.reduceGE, Int.reduceEq, Int.reduceAdd, Int.reduceSub, Int.reduceMul, Nat.reduceMul, Nat.reduceSub, Nat.reduceLeDiff] <;> rfl) (by simp only [go_sem, Nat.reduceAdd, Nat.reduceLT, Nat.reduceEqDiff, reduceIte, reduceCtorEq, Int.reduceBEq, Int.reduceBNe, Int.reduceLT, Int.reduceLE, Int.reduceGT, Int.reduceGE, Int.reduceEq, Int.reduceAdd, Int.reduceSub, Int.reduceMul, Nat.reduceMul, Nat.reduceSub, Nat.reduceLeDiff] <;> rfl) (by simp only [go_sem, Nat.reduceAdd, Nat.reduceLT, Nat.reduceEqDiff, reduceIte, reduceCtorEq, Int.reduceBEq, Int.reduceBNe, Int.reduceLT, Int.reduceLE, Int.reduceGT, Int.reduceGE, Int.reduceEq, Int.reduceAdd, Int.reduceSub, Int.reduceMul, Nat.reduceMul, Nat.reduceSub, Nat.reduceLeDiff] <;> rfl)
      · refine WS_run 1000 (by simp only [go_sem, Nat.reduceAdd, Nat.reduceLT, Nat.reduceEqDiff, reduceIte, reduceCtorEq, Int.reduceBEq, Int.reduceBNe, Int.reduceLT, Int.reduceLE, Int.reduceGT, Int.reduceGE, Int.reduceEq, Int.reduceAdd, Int.reduceSub, Int.reduceMul, Nat.reduceMul, Nat.reduceSub, Nat.reduceLeDiff, k37, eqV, e0, e1, e2]; rfl) ?_
        exact begun rfl _ (by simp only [go_sem, Nat.reduceAdd, Nat.reduceLT, Nat.reduceEqDiff, reduceIte, reduceCtorEq, Int.reduceBEq, Int.reduceBNe, Int.reduceLT, Int.reduceLE, Int.reduceGT, Int.reduceGE, Int.reduceEq, Int.reduceAdd, Int.reduceSub, Int.reduceMul, Nat.reduceMul, Nat.reduceSub, Nat.reduceLeDiff] <;> rfl) (by simp only [go_sem, Nat.reduceAdd, Nat.reduceLT, Nat.reduceEqDiff, reduceIte, reduceCtorEq, Int.reduceBEq, Int.reduceBNe, Int.reduceLT, Int.reduceLE, Int.reduceGT, Int.reduceGE, Int.reduceEq, Int.reduceAdd, Int.reduceSub, Int.reduceMul, Nat.reduceMul, Nat.reduceSub, Nat.reduceLeDiff] <;> rfl) (by simp only [go_sem, Nat.reduceAdd, Nat.reduceLT, Nat.reduceEqDiff, reduceIte, reduceCtorEq, Int.reduceBEq, Int.reduceBNe, Int.reduceLT, Int.reduceLE, Int.reduceGT, Int.reduceGE, Int.reduceEq, Int.reduceAdd, Int.reduceSub, Int.reduceMul, Nat.reduceMul, Nat.reduceSub, Nat.reduceLeDiff] <;> rfl) (by simp only [go_sem, Nat.reduceAdd, Nat.reduceLT, Nat.reduceEqDiff, reduceIte, reduceCtorEq, Int.reduceBEq, Int.reduceBNe, Int.reduceLT, Int.reduceLE, Int.reduceGT, Int.reduceGE, Int.reduceEq, Int.reduceAdd, Int.reduceSub, Int.reduceMul, Nat.reduceMul, Nat.reduceSub, Nat.reduceLeDiff] <;> rfl) (by simp only [go_sem, Nat.reduceAdd, Nat.reduceLT, Nat.reduceEqDiff, reduceIte, reduceCtorEq, Int.reduceBEq, Int.reduceBNe, Int.reduceLT, Int.reduceLE, Int.reduceGT, Int.reduceGE, Int.reduceEq, Int.reduceAdd, Int.reduceSub, Int.reduceMul, Nat.reduceMul, Nat.reduceSub, Nat.reduceLeDiff] <;> rfl)
    · have e2 : ¬ 0 = width := fun h => hw h.symm
      refine WS_run 1000 (by simp only [go_sem, Nat.reduceAdd, Nat.reduceLT, Nat.reduceEqDiff, reduceIte, reduceCtorEq, Int.reduceBEq, Int.reduceBNe, Int.reduceLT, Int.reduceLE, Int.reduceGT, Int.reduceGE, Int.reduceEq, Int.reduceAdd, Int.reduceSub, Int.reduceMul, Nat.reduceMul, Nat.reduceSub, Nat.reduceLeDiff, k37, eqV, e0, e1, e2]; rfl) ?_
      refine WS_ret ⟨_, by simp only [go_sem, Nat.reduceAdd, Nat.reduceLT, Nat.reduceEqDiff, reduceIte, reduceCtorEq, Int.reduceBEq, Int.reduceBNe, Int.reduceLT, Int.reduceLE, Int.reduceGT, Int.reduceGE, Int.reduceEq, Int.reduceAdd, Int.reduceSub, Int.reduceMul, Nat.reduceMul, Nat.reduceSub, Nat.reduceLeDiff, k37]; rfl, ?_⟩
      exact h1 fun h => hw h.symm
  · by_cases hw : pat.length = width
    · rcases hs.hb.inv with ⟨rfl, h0, _⟩ | ⟨b, rfl, hSb, _⟩
      · rw [h0] at begun
        refine WS_run 1000 (by simp only [go_sem, Nat.reduceAdd, Nat.reduceLT, Nat.reduceEqDiff, reduceIte, reduceCtorEq, Int.reduceBEq, Int.reduceBNe, Int.reduceLT, Int.reduceLE, Int.reduceGT, Int.reduceGE, Int.reduceEq, Int.reduceAdd, Int.reduceSub, Int.reduceMul, Nat.reduceMul, Nat.reduceSub, Nat.reduceLeDiff, k37, eqV, e0, e1, hw]; rfl) ?_
        exact begun hw _ (by simp only [go_sem, Nat.reduceAdd, Nat.reduceLT, Nat.reduceEqDiff, reduceIte, reduceCtorEq, Int.reduceBEq, Int.reduceBNe, Int.reduceLT, Int.reduceLE, Int.reduceGT, Int.reduceGE, Int.reduceEq, Int.reduceAdd, Int.reduceSub, Int.reduceMul, Nat.reduceMul, Nat.reduceSub, Nat.reduceLeDiff, hw] <;> rfl) (by simp only [go_sem, Nat.reduceAdd, Nat.reduceLT, Nat.reduceEqDiff, reduceIte, reduceCtorEq, Int.reduceBEq, Int.reduceBNe, Int.reduceLT, Int.reduceLE, Int.reduceGT, Int.reduceGE, Int.reduceEq, Int.reduceAdd, Int.reduceSub, Int.reduceMul, Nat.reduceMul, Nat.reduceSub, Nat.reduceLeDiff] <;> rfl) (by simp only [go_sem, Nat.reduceAdd, Nat.reduceLT, Nat.reduceEqDiff, reduceIte, reduceCtorEq, Int.reduceBEq, Int.reduceBNe, Int.reduceLT, Int.reduceLE, Int.reduceGT, Int.reduceGE, Int.reduceEq, Int.reduceAdd, Int.reduceSub, Int.reduceMul, Nat.reduceMul, Nat.reduceSub, Nat.reduceLeDiff] <;> rfl) (by simp only [go_sem, Nat.reduceAdd, Nat.reduceLT, Nat.reduceEqDiff, reduceIte, reduceCtorEq, Int.reduceBEq, Int.reduceBNe, Int.reduceLT, Int.reduceLE, Int.reduceGT, Int.reduceGE, Int.reduceEq, Int.reduceAdd, Int.reduceSub, Int.reduceMul, Nat.reduceMul, Nat.reduceSub, Nat.reduceLeDiff] <;> rfl) (by simp only [go_sem, Nat.reduceAdd, Nat.reduceLT, Nat.reduceEqDiff, reduceIte, reduceCtorEq, Int.reduceBEq, Int.reduceBNe, Int.reduceLT, Int.reduceLE, Int.reduceGT, Int.reduceGE, Int.reduceEq, Int.reduceAdd, Int.reduceSub, Int.reduceMul, Nat.reduceMul, Nat.reduceSub, Nat.reduceLeDiff] <;> rfl)
      · refine WS_run 1000 (by simp only [go_sem, Nat.reduceAdd, Nat.reduceLT, Nat.reduceEqDiff, reduceIte, reduceCtorEq, Int.reduceBEq, Int.reduceBNe, Int.reduceLT, Int.reduceLE, Int.reduceGT, Int.reduceGE, Int.reduceEq, Int.reduceAdd, Int.reduceSub, Int.reduceMul, Nat.reduceMul, Nat.reduceSub, Nat.reduceLeDiff, k37, eqV, e0, e1, hw]; rfl) ?_
        exact begun hw _ (by simp only [go_sem, Nat.reduceAdd, Nat.reduceLT, Nat.reduceEqDiff, reduceIte, reduceCtorEq, Int.reduceBEq, Int.reduceBNe, Int.reduceLT, Int.reduceLE, Int.reduceGT, Int.reduceGE, Int.reduceEq, Int.reduceAdd, Int.reduceSub, Int.reduceMul, Nat.reduceMul, Nat.reduceSub, Nat.reduceLeDiff, hw] <;> rfl) (by simp only [go_sem, Nat.reduceAdd, Nat.reduceLT, Nat.reduceEqDiff, reduceIte, reduceCtorEq, Int.reduceBEq, Int.reduceBNe, Int.reduceLT, Int.reduceLE, Int.reduceGT, Int.reduceGE, Int.reduceEq, Int.reduceAdd, Int.reduceSub, Int.reduceMul, Nat.reduceMul, Nat.reduceSub, Nat.reduceLeDiff] <;> rfl) (by simp only [go_sem, Nat.reduceAdd, Nat.reduceLT, Nat.reduceEqDiff, reduceIte, reduceCtorEq, Int.reduceBEq, Int.reduceBNe, Int.reduceLT, Int.reduceLE, Int.reduceGT, Int.reduceGE, Int.reduceEq, Int.reduceAdd, Int.reduceSub, Int.reduceMul, Nat.reduceMul, Nat.reduceSub, Nat.reduceLeDiff] <;> rfl) (by simp only [go_sem, Nat.reduceAdd, Nat.reduceLT, Nat.reduceEqDiff, reduceIte, reduceCtorEq, Int.reduceBEq, Int.reduceBNe, Int.reduceLT, Int.reduceLE, Int.reduceGT, Int.reduceGE, Int.reduceEq, Int.reduceAdd, Int.reduceSub, Int.reduceMul, Nat.reduceMul, Nat.reduceSub, Nat.reduceLeDiff] <;> rfl) (by simp only [go_sem, Nat.reduceAdd, Nat.reduceLT, Nat.reduceEqDiff, reduceIte, reduceCtorEq, Int.reduceBEq, Int.reduceBNe, Int.reduceLT, Int.reduceLE, Int.reduceGT, Int.reduceGE, Int.reduceEq, Int.reduceAdd, Int.reduceSub, Int.reduceMul, Nat.reduceMul, Nat.reduceSub, Nat.reduceLeDiff] <;> rfl)
    · refine WS_run 1000 (by simp only [go_sem, Nat.reduceAdd, Nat.reduceLT, Nat.reduceEqDiff, reduceIte, reduceCtorEq, Int.reduceBEq, Int.reduceBNe, Int.reduceLT, Int.reduceLE, Int.reduceGT, Int.reduceGE, Int.reduceEq, Int.reduceAdd, Int.reduceSub, Int.reduceMul, Nat.reduceMul, Nat.reduceSub, Nat.reduceLeDiff, k37, eqV, e0, e1, hw]; rfl) ?_
      refine WS_ret ⟨_, by simp only [go_sem, Nat.reduceAdd, Nat.reduceLT, Nat.reduceEqDiff, reduceIte, reduceCtorEq, Int.reduceBEq, Int.reduceBNe, Int.reduceLT, Int.reduceLE, Int.reduceGT, Int.reduceGE, Int.reduceEq, Int.reduceAdd, Int.reduceSub, Int.reduceMul, Nat.reduceMul, Nat.reduceSub, Nat.reduceLeDiff, k37]; rfl, ?_⟩
      exact h1 hw
end Go.Proofs.Ytjidefnbancmfaa
