/- Relation: sets; finding, cloning, inserting. -/
import Derived.Test.YtjidefnbancmfaaPRel2
set_option linter.unusedVariables false
set_option linter.unusedSimpArgs false
namespace Go.Proofs.Ytjidefnbancmfaa
open Go.AE
variable {tab : Tab}
structure SetV (S : Nat → Prop) (w : AW) (bp : Nat) (width : Nat) (rows : List (List Int)) (lv : V) (cs : List V) (S0 T : Nat → Prop) : Prop where
  hp : S bp
  lt : bp < w.next
  hx : w.heap.get bp = some (.cells [.int .i64 (Int.ofNat width), lv] .own)
  h0 : ∀ b, S0 b → S b ∧ b ≠ bp ∧ b < w.next
  hT : ∀ b, T b → S b ∧ b ≠ bp ∧ ¬ S0 b ∧ b < w.next
  hS : ∀ b, S b → b < w.next
  hb : Buf S0 w lv 1 rows.length cs
  hv : RowsV T w cs rows
  rise : Rise rows
  wid : ∀ x ∈ rows, x.length = width
  w4 : width ≤ 4
def SetOf (S : Nat → Prop) (w : AW) (p : V) (width : Nat) (rows : List (List Int)) : Prop := ∃ bp lv cs S0 T, p = .ptr bp 0 ∧ SetV S w bp width rows lv cs S0 T
theorem SetV.frm {S R T S0 : Nat → Prop} {w w' : AW} {bp width : Nat} {rows : List (List Int)} {lv : V} {cs : List V} (h : SetV S w bp width rows lv cs S0 T) (hf : Frm R w w') (hd : ∀ x, S x → ¬ R x) : SetV S w' bp width rows lv cs S0 T where
  hp := h.hp
  lt := Nat.lt_of_lt_of_le h.lt hf.next
  hx := (hf.heap _ h.lt (hd _ h.hp)).trans h.hx
  h0 b hb := ⟨(h.h0 b hb).1, (h.h0 b hb).2.1, Nat.lt_of_lt_of_le (h.h0 b hb).2.2 hf.next⟩
  hT b hb := ⟨(h.hT b hb).1, (h.hT b hb).2.1, (h.hT b hb).2.2.1, Nat.lt_of_lt_of_le (h.hT b hb).2.2.2 hf.next⟩
  hS b hb := Nat.lt_of_lt_of_le (h.hS b hb) hf.next
  hb := h.hb.frm hf fun x hx => hd x (h.h0 x hx).1
  hv := h.hv.frm hf fun x hx => hd x (h.hT x hx).1
  rise := h.rise
  wid := h.wid
  w4 := h.w4
theorem SetOf.frm {S R : Nat → Prop} {w w' : AW} {p : V} {width : Nat} {rows : List (List Int)} (h : SetOf S w p width rows) (hf : Frm R w w') (hd : ∀ x, S x → ¬ R x) : SetOf S w' p width rows := by
  obtain ⟨bp, lv, cs, S0, T, rfl, h⟩ := h
  exact ⟨bp, lv, cs, S0, T, rfl, h.frm hf hd⟩
theorem SetV.load0 {S T S0 : Nat → Prop} {w : AW} {bp width : Nat} {rows : List (List Int)} {lv : V} {cs : List V} (h : SetV S w bp width rows lv cs S0 T) : w.load bp 0 1 = some [.int .i64 (Int.ofNat width)] := by
  simp only [AW.load, h.hx, AW.alive, List.drop_zero, takeN]
theorem SetV.load1 {S T S0 : Nat → Prop} {w : AW} {bp width : Nat} {rows : List (List Int)} {lv : V} {cs : List V} (h : SetV S w bp width rows lv cs S0 T) : w.load bp 1 1 = some [lv] := by
  simp only [AW.load, h.hx, AW.alive, List.drop_succ_cons, List.drop_zero, takeN]
theorem ne_0n {a : Nat} : ((0 : Int) != Int.ofNat a) = !decide (0 = a) := ne_nn (a := 0)
/-- (*Set).find. -/
theorem find_ok (C : Codes tab) {S T S0 U : Nat → Prop} {bp width : Nat} {rows : List (List Int)} {lv rv : V} {cs : List V} {r : List Int} {aw : AW} {K : V → AW → Prop} (hs : SetV S aw bp width rows lv cs S0 T) (hr : RowV U aw rv r) (hn : rows.length ≤ 1000000) (hlr : r.length ≤ 1000)
    (h1 : r.length ≠ width → K (.tuple [.int .i64 (-1), .bool false]) aw) (h2 : r.length = width → K (.tuple [.int .i64 (Int.ofNat (posn rows r)), .bool (decide (r ∈ rows))]) aw) : WF tab 53 [.ptr bp 0, rv] aw K := by
  refine WF_of C.c53 rfl ?_
  have e0 := hs.load0
  have e1 := hs.load1
  have w4 := hs.w4
  have hl : ∀ x ∈ rows, x.length ≤ 1000 := fun x hx => by have := hs.wid x hx; omega
  rcases hr.inv with ⟨rfl, rfl⟩ | ⟨b, c, rfl, _⟩
  · by_cases hw : width = 0
    · subst hw
      have e2 : ((0 : Int) != Int.ofNat 0) = false := rfl
      refine WS_run 1000 (by simp only [go_sem, Nat.reduceAdd, Nat.reduceLT, Nat.reduceEqDiff, reduceIte, reduceCtorEq, Int.reduceBEq, Int.reduceBNe, Int.reduceLT, Int.reduceLE, Int.reduceGT, Int.reduceGE, Int.reduceEq, Int.reduceAdd, Int.reduceSub, Int.reduceMul, Nat.reduceMul, Nat.reduceSub, Nat.reduceLeDiff, k53, eqV, e0, e1, e2]; rfl) ?_
      refine WS_call (by simp only [go_sem, Nat.reduceAdd, Nat.reduceLT, Nat.reduceEqDiff, reduceIte, reduceCtorEq, Int.reduceBEq, Int.reduceBNe, Int.reduceLT, Int.reduceLE, Int.reduceGT, Int.reduceGE, Int.reduceEq, Int.reduceAdd, Int.reduceSub, Int.reduceMul, Nat.reduceMul, Nat.reduceSub, Nat.reduceLeDiff]) (by simp only [go_sem, Nat.reduceAdd, Nat.reduceLT, Nat.reduceEqDiff, reduceIte, reduceCtorEq, Int.reduceBEq, Int.reduceBNe, Int.reduceLT, Int.reduceLE, Int.reduceGT, Int.reduceGE, Int.reduceEq, Int.reduceAdd, Int.reduceSub, Int.reduceMul, Nat.reduceMul, Nat.reduceSub, Nat.reduceLeDiff]; rfl) ?_
      refine search_ok C hs.hb hs.hv hr hs.rise hn hl hlr ?_
      refine WS_run 1000 (by simp only [go_sem, Nat.reduceAdd, Nat.reduceLT, Nat.reduceEqDiff, reduceIte, reduceCtorEq, Int.reduceBEq, Int.reduceBNe, Int.reduceLT, Int.reduceLE, Int.reduceGT, Int.reduceGE, Int.reduceEq, Int.reduceAdd, Int.reduceSub, Int.reduceMul, Nat.reduceMul, Nat.reduceSub, Nat.reduceLeDiff]; rfl) ?_
      refine WS_ret ⟨_, by simp only [go_sem, Nat.reduceAdd, Nat.reduceLT, Nat.reduceEqDiff, reduceIte, reduceCtorEq, Int.reduceBEq, Int.reduceBNe, Int.reduceLT, Int.reduceLE, Int.reduceGT, Int.reduceGE, Int.reduceEq, Int.reduceAdd, Int.reduceSub, Int.reduceMul, Nat.reduceMul, Nat.reduceSub, Nat.reduceLeDiff, k53]; rfl, ?_⟩
      exact h2 rfl
    · have e2 : ¬ 0 = width := fun h => hw h.symm
      refine WS_run 1000 (by simp only [go_sem, Nat.reduceAdd, Nat.reduceLT, Nat.reduceEqDiff, reduceIte, reduceCtorEq, Int.reduceBEq, Int.reduceBNe, Int.reduceLT, Int.reduceLE, Int.reduceGT, Int.reduceGE, Int.reduceEq, Int.reduceAdd, Int.reduceSub, Int.reduceMul, Nat.reduceMul, Nat.reduceSub, Nat.reduceLeDiff, k53, eqV, e0, e1, e2]; rfl) ?_
      refine WS_ret ⟨_, by simp only [go_sem, Nat.reduceAdd, Nat.reduceLT, Nat.reduceEqDiff, reduceIte, reduceCtorEq, Int.reduceBEq, Int.reduceBNe, Int.reduceLT, Int.reduceLE, Int.reduceGT, Int.reduceGE, Int.reduceEq, Int.reduceAdd, Int.reduceSub, Int.reduceMul, Nat.reduceMul, Nat.reduceSub, Nat.reduceLeDiff, k53]; rfl, ?_⟩
      exact h1 fun h => hw h.symm
  · by_cases hw : r.length = width
    · refine WS_run 1000 (by simp only [go_sem, Nat.reduceAdd, Nat.reduceLT, Nat.reduceEqDiff, reduceIte, reduceCtorEq, Int.reduceBEq, Int.reduceBNe, Int.reduceLT, Int.reduceLE, Int.reduceGT, Int.reduceGE, Int.reduceEq, Int.reduceAdd, Int.reduceSub, Int.reduceMul, Nat.reduceMul, Nat.reduceSub, Nat.reduceLeDiff, k53, eqV, e0, e1, hw]; rfl) ?_
      refine WS_call (by simp only [go_sem, Nat.reduceAdd, Nat.reduceLT, Nat.reduceEqDiff, reduceIte, reduceCtorEq, Int.reduceBEq, Int.reduceBNe, Int.reduceLT, Int.reduceLE, Int.reduceGT, Int.reduceGE, Int.reduceEq, Int.reduceAdd, Int.reduceSub, Int.reduceMul, Nat.reduceMul, Nat.reduceSub, Nat.reduceLeDiff]) (by simp only [go_sem, Nat.reduceAdd, Nat.reduceLT, Nat.reduceEqDiff, reduceIte, reduceCtorEq, Int.reduceBEq, Int.reduceBNe, Int.reduceLT, Int.reduceLE, Int.reduceGT, Int.reduceGE, Int.reduceEq, Int.reduceAdd, Int.reduceSub, Int.reduceMul, Nat.reduceMul, Nat.reduceSub, Nat.reduceLeDiff]; rfl) ?_
      refine search_ok C hs.hb hs.hv (hw ▸ hr) hs.rise hn hl hlr ?_
      refine WS_run 1000 (by simp only [go_sem, Nat.reduceAdd, Nat.reduceLT, Nat.reduceEqDiff, reduceIte, reduceCtorEq, Int.reduceBEq, Int.reduceBNe, Int.reduceLT, Int.reduceLE, Int.reduceGT, Int.reduceGE, Int.reduceEq, Int.reduceAdd, Int.reduceSub, Int.reduceMul, Nat.reduceMul, Nat.reduceSub, Nat.reduceLeDiff]; rfl) ?_
      refine WS_ret ⟨_, by simp only [go_sem, Nat.reduceAdd, Nat.reduceLT, Nat.reduceEqDiff, reduceIte, reduceCtorEq, Int.reduceBEq, Int.reduceBNe, Int.reduceLT, Int.reduceLE, Int.reduceGT, Int.reduceGE, Int.reduceEq, Int.reduceAdd, Int.reduceSub, Int.reduceMul, Nat.reduceMul, Nat.reduceSub, Nat.reduceLeDiff, k53]; rfl, ?_⟩
      exact h2 hw
    · refine WS_run 1000 (by simp only [go_sem, Nat.reduceAdd, Nat.reduceLT, Nat.reduceEqDiff, reduceIte, reduceCtorEq, Int.reduceBEq, Int.reduceBNe, Int.reduceLT, Int.reduceLE, Int.reduceGT, Int.reduceGE, Int.reduceEq, Int.reduceAdd, Int.reduceSub, Int.reduceMul, Nat.reduceMul, Nat.reduceSub, Nat.reduceLeDiff, k53, eqV, e0, e1, hw]; rfl) ?_
      refine WS_ret ⟨_, by simp only [go_sem, Nat.reduceAdd, Nat.reduceLT, Nat.reduceEqDiff, reduceIte, reduceCtorEq, Int.reduceBEq, Int.reduceBNe, Int.reduceLT, Int.reduceLE, Int.reduceGT, Int.reduceGE, Int.reduceEq, Int.reduceAdd, Int.reduceSub, Int.reduceMul, Nat.reduceMul, Nat.reduceSub, Nat.reduceLeDiff, k53]; rfl, ?_⟩
      exact h1 hw
/-- slices.Clone. -/
theorem row_elems {w : AW} {b : Nat} {c : Cap} {l : List Int} (hx : w.heap.get b = some (.cells (rowC l) .own)) : w.elems 1 (.slice b 0 l.length c) = some (l.length, rowC l) := by
  cases l with
  | nil => rfl
  | cons x l =>
    simp only [AW.elems, List.length_cons, AW.load, hx, AW.alive, List.drop_zero]
    rw [takeN_all _ _ (by simp [rowC])]
theorem allOne_row (l : List Int) : allOne (rowC l) = true := by
  rw [allOne_iff]; intro v hv
  simp only [rowC, List.mem_map] at hv
  obtain ⟨x, _, rfl⟩ := hv; rfl
theorem clone_ok (C : Codes tab) {U : Nat → Prop} {rv : V} {r : List Int} {aw : AW} {K : V → AW → Prop} (hr : RowV U aw rv r) (hlr : r.length ≤ 1000)
    (h : ∀ v w, RowV (fun b => aw.next ≤ b ∧ b < w.next) w v r → Frm (fun _ => False) aw w → K v w) : WF tab 55 [rv] aw K := by
  refine WF_of C.c55 rfl ?_
  rcases hr.inv with ⟨rfl, rfl⟩ | ⟨b, c, rfl, _, hb, hx⟩
  · refine WS_run 1000 (by simp only [go_sem, Nat.reduceAdd, Nat.reduceLT, Nat.reduceEqDiff, reduceIte, reduceCtorEq, Int.reduceBEq, Int.reduceBNe, Int.reduceLT, Int.reduceLE, Int.reduceGT, Int.reduceGE, Int.reduceEq, Int.reduceAdd, Int.reduceSub, Int.reduceMul, Nat.reduceMul, Nat.reduceSub, Nat.reduceLeDiff, k55, eqV]; rfl) ?_
    refine WS_ret ⟨_, by simp only [go_sem, Nat.reduceAdd, Nat.reduceLT, Nat.reduceEqDiff, reduceIte, reduceCtorEq, Int.reduceBEq, Int.reduceBNe, Int.reduceLT, Int.reduceLE, Int.reduceGT, Int.reduceGE, Int.reduceEq, Int.reduceAdd, Int.reduceSub, Int.reduceMul, Nat.reduceMul, Nat.reduceSub, Nat.reduceLeDiff, k55]; rfl, ?_⟩
    exact h _ _ .nil (Frm.refl _)
  · have hx' : (aw.fresh []).heap.get b = some (.cells (rowC r) .own) := (T.get_put_ne (by omega)).trans hx
    have hf : Frm (fun _ => False) aw (aw.fresh []) := Frm.new _ _
    have he := row_elems (c := c) hx'
    cases hrl : r.length with
    | zero =>
      have : r = [] := List.length_eq_zero_iff.1 hrl
      subst this
      rw [List.length_nil] at he
      refine WS_run 1000 (by simp only [go_sem, Nat.reduceAdd, Nat.reduceLT, Nat.reduceEqDiff, reduceIte, reduceCtorEq, Int.reduceBEq, Int.reduceBNe, Int.reduceLT, Int.reduceLE, Int.reduceGT, Int.reduceGE, Int.reduceEq, Int.reduceAdd, Int.reduceSub, Int.reduceMul, Nat.reduceMul, Nat.reduceSub, Nat.reduceLeDiff, k55, eqV, evParts, fillV, List.length_nil, he, AW.appendV]; rfl) ?_
      refine WS_ret ⟨_, by simp only [go_sem, Nat.reduceAdd, Nat.reduceLT, Nat.reduceEqDiff, reduceIte, reduceCtorEq, Int.reduceBEq, Int.reduceBNe, Int.reduceLT, Int.reduceLE, Int.reduceGT, Int.reduceGE, Int.reduceEq, Int.reduceAdd, Int.reduceSub, Int.reduceMul, Nat.reduceMul, Nat.reduceSub, Nat.reduceLeDiff, k55]; rfl, ?_⟩
      refine h _ _ (.blk (n := 0) ⟨Nat.le_refl _, Nat.lt_succ_self _⟩ (Nat.lt_succ_self _) T.get_put_same rfl) hf
    | succ k =>
      have hap : (aw.fresh []).appendV 1 8 (.slice aw.next 0 0 (.known 0)) (k + 1) (rowC r) = some (.slice (aw.next + 1) 0 (k + 1) (.upTo 1), (aw.fresh []).fresh (rowC r)) := by
        simp only [AW.appendV]
        rw [if_pos ⟨by omega, by omega, by omega⟩, if_neg (by omega)]
        simp only [AW.elems, Nat.zero_add, List.nil_append]
        rfl
      rw [hrl] at he
      refine WS_run 1000 (by simp only [go_sem, Nat.reduceAdd, Nat.reduceLT, Nat.reduceEqDiff, reduceIte, reduceCtorEq, Int.reduceBEq, Int.reduceBNe, Int.reduceLT, Int.reduceLE, Int.reduceGT, Int.reduceGE, Int.reduceEq, Int.reduceAdd, Int.reduceSub, Int.reduceMul, Nat.reduceMul, Nat.reduceSub, Nat.reduceLeDiff, k55, eqV, evParts, fillV, hrl, he, hap]; rfl) ?_
      refine WS_ret ⟨_, by simp only [go_sem, Nat.reduceAdd, Nat.reduceLT, Nat.reduceEqDiff, reduceIte, reduceCtorEq, Int.reduceBEq, Int.reduceBNe, Int.reduceLT, Int.reduceLE, Int.reduceGT, Int.reduceGE, Int.reduceEq, Int.reduceAdd, Int.reduceSub, Int.reduceMul, Nat.reduceMul, Nat.reduceSub, Nat.reduceLeDiff, k55]; rfl, ?_⟩
      refine h _ _ (.blk (n := k + 1) ⟨Nat.le_succ _, Nat.lt_succ_self _⟩ (Nat.lt_succ_self _) T.get_put_same hrl) (hf.trans (Frm.new _ _) (fun _ _ h => h) fun _ _ h => h)
/-- slices.Insert, of one element. -/
theorem insert_ok (C : Codes tab) (hP : ∀ args aw v aw', insPrim 24 args aw = some (v, aw') → tab.prim 54 args aw v aw') {S : Nat → Prop} {lv x : V} {n i bv : Nat} {cs : List V} {aw : AW} {K : V → AW → Prop} (hb : Buf S aw lv 1 n cs) (hi : i ≤ n) (hv : aw.heap.get bv = some (.cells [x] .own)) (hne : ¬ S bv)
    (h1 : x.one = true) (h2 : allOne cs = true) (hn : n ≤ 1000000) (h : ∀ v w S', Buf S' w v 1 (n + 1) (cs.take i ++ [x] ++ cs.drop i) → Frm S aw w → Grown S S' aw w → K v w) : WF tab 54 [lv, .int .i64 (Int.ofNat i), .slice bv 0 1 (.known 1)] aw K := by
  have hel : aw.elems 1 (.slice bv 0 1 (.known 1)) = some (1, [x]) := by simp only [AW.elems, AW.load, hv, AW.alive, List.drop_zero, takeN]
  have hcl := hb.len
  rw [Nat.mul_one] at hcl
  have hone : allOne [x] = true := by simp [allOne, h1]
  rcases hb.inv with ⟨rfl, rfl, rfl⟩ | ⟨b, rfl, hSb, _⟩
  · have : i = 0 := by omega
    subst this
    obtain ⟨v', w', S', q1, q2, q3, q4⟩ := hb.add (news := [x]) (bytes := 24) (by omega) rfl hone (by omega) (by omega)
    have ev : WF tab 54 [.nilslice, .int .i64 (Int.ofNat 0), .slice bv 0 1 (.known 1)] aw K := by
      refine WF_of C.c54 rfl ?_
      have e0 : idx (.int .i64 (Int.ofNat 0)) = some 0 := rfl
      have e1 : (Int.ofNat 0 == (0 : Int)) = true := rfl
      have e2 : ((1 : Int) == 0) = false := rfl
      refine WS_run 1000 (by simp only [go_sem, Nat.reduceAdd, Nat.reduceLT, Nat.reduceEqDiff, reduceIte, reduceCtorEq, Int.reduceBEq, Int.reduceBNe, Int.reduceLT, Int.reduceLE, Int.reduceGT, Int.reduceGE, Int.reduceEq, Int.reduceAdd, Int.reduceSub, Int.reduceMul, Nat.reduceMul, Nat.reduceSub, Nat.reduceLeDiff, k54, e0, e1, e2, hel, q1, imp_self]; rfl) ?_
      refine WS_ret ⟨_, by simp only [go_sem, Nat.reduceAdd, Nat.reduceLT, Nat.reduceEqDiff, reduceIte, reduceCtorEq, Int.reduceBEq, Int.reduceBNe, Int.reduceLT, Int.reduceLE, Int.reduceGT, Int.reduceGE, Int.reduceEq, Int.reduceAdd, Int.reduceSub, Int.reduceMul, Nat.reduceMul, Nat.reduceSub, Nat.reduceLeDiff, k54]; rfl, ?_⟩
      exact h _ _ _ q2 q3 q4
    exact ev
  · by_cases hin : i < n
    · obtain ⟨v', w', S', q1, q2, q3, q4⟩ := hb.insert (bytes := 24) (k := 1) (i := i) hin hv (fun e => hne (e ▸ hSb)) h1 h2 (by omega) (by omega)
      exact ⟨_, _, .prim (hP _ _ _ _ q1), h _ _ _ q2 q3 q4⟩
    · have : i = n := by omega
      subst this
      obtain ⟨v', w', S', q1, q2, q3, q4⟩ := hb.add (news := [x]) (bytes := 24) (by omega) rfl hone (by omega) (by omega)
      refine WF_of C.c54 rfl ?_
      have e2 : ((1 : Int) == 0) = false := rfl
      refine WS_run 1000 (by simp only [go_sem, Nat.reduceAdd, Nat.reduceLT, Nat.reduceEqDiff, reduceIte, reduceCtorEq, Int.reduceBEq, Int.reduceBNe, Int.reduceLT, Int.reduceLE, Int.reduceGT, Int.reduceGE, Int.reduceEq, Int.reduceAdd, Int.reduceSub, Int.reduceMul, Nat.reduceMul, Nat.reduceSub, Nat.reduceLeDiff, k54, AW.sliceW, sliceV, e2, hel, q1]; rfl) ?_
      refine WS_ret ⟨_, by simp only [go_sem, Nat.reduceAdd, Nat.reduceLT, Nat.reduceEqDiff, reduceIte, reduceCtorEq, Int.reduceBEq, Int.reduceBNe, Int.reduceLT, Int.reduceLE, Int.reduceGT, Int.reduceGE, Int.reduceEq, Int.reduceAdd, Int.reduceSub, Int.reduceMul, Nat.reduceMul, Nat.reduceSub, Nat.reduceLeDiff, k54]; rfl, ?_⟩
      refine h _ _ _ ?_ q3 q4
      rw [List.take_of_length_le (by omega), List.drop_eq_nil_of_le (by omega), List.append_nil]; exact q2
/-- what is appended to the right place. -/
def insR (rows : List (List Int)) (r : List Int) : List (List Int) := rows.take (posn rows r) ++ [r] ++ rows.drop (posn rows r)
theorem posn_lt {rows : List (List Int)} {r : List Int} : ∀ (j : Nat) x, j < posn rows r → rows[j]? = some x → cmpL x r < 0 := by
  intro j x hj hx
  unfold posn at hj
  have hjl := (List.getElem?_eq_some_iff.1 hx).1
  have h1 : (rows.takeWhile fun x => decide (cmpL x r < 0))[j]? = some x := by
    have hp := List.takeWhile_prefix (l := rows) (fun x => decide (cmpL x r < 0))
    obtain ⟨t, ht⟩ := hp
    rw [← ht, List.getElem?_append_left hj] at hx
    exact hx
  have := List.mem_of_getElem? h1
  have ha := List.all_eq_true.1 (List.all_takeWhile (l := rows) (p := fun x => decide (cmpL x r < 0))) _ this
  simpa using ha
theorem posn_ge : ∀ {rows : List (List Int)} {r : List Int} x, rows[posn rows r]? = some x → ¬ cmpL x r < 0
  | [], r, x, h => by simp at h
  | y :: rows, r, x, h => by
    by_cases hy : cmpL y r < 0
    · have e : posn (y :: rows) r = posn rows r + 1 := by simp [posn, hy]
      rw [e] at h
      exact posn_ge x (by simpa using h)
    · have e : posn (y :: rows) r = 0 := by simp [posn, hy]
      rw [e] at h
      simp at h
      rw [← h]; exact hy
theorem posn_gt {rows : List (List Int)} {r : List Int} (hr : Rise rows) (hn : r ∉ rows) : ∀ (j : Nat) x, posn rows r ≤ j → rows[j]? = some x → cmpL r x < 0 := by
  intro j x hj hx
  have hjl := (List.getElem?_eq_some_iff.1 hx).1
  have hpl : posn rows r < rows.length := by omega
  have h1 : ¬ cmpL x r < 0 := by
    by_cases he : j = posn rows r
    · rw [he] at hx; exact posn_ge x hx
    · have h2 := posn_ge (rows := rows) (r := r) _ (List.getElem?_eq_getElem hpl)
      have h3 := List.pairwise_iff_getElem.1 hr _ j hpl hjl (by omega)
      rw [List.getElem?_eq_getElem hjl] at hx
      cases hx
      exact fun hx => h2 (cmpL_trans h3 hx)
  rcases cmpL_total (a := r) (b := x) with h | h | h
  · exact h
  · subst h; exact absurd (List.mem_of_getElem? hx) hn
  · exact absurd h h1
theorem rise_ins {rows : List (List Int)} {r : List Int} (hr : Rise rows) (hn : r ∉ rows) : Rise (insR rows r) := by
  have hlo : ∀ x ∈ rows.take (posn rows r), cmpL x r < 0 := by
    intro x hx
    obtain ⟨j, hj, e⟩ := List.mem_iff_getElem.1 hx
    rw [List.length_take] at hj
    refine posn_lt (rows := rows) j x (by omega) ?_
    rw [List.getElem_take] at e
    rw [List.getElem?_eq_getElem (by omega), e]
  have hhi : ∀ x ∈ rows.drop (posn rows r), cmpL r x < 0 := by
    intro x hx
    obtain ⟨j, hj, e⟩ := List.mem_iff_getElem.1 hx
    rw [List.length_drop] at hj
    refine posn_gt hr hn (posn rows r + j) x (by omega) ?_
    rw [List.getElem_drop] at e
    rw [List.getElem?_eq_getElem (by omega), e]
  unfold insR Rise
  rw [List.append_assoc, List.pairwise_append]
  refine ⟨List.Pairwise.sublist (List.take_sublist _ _) hr, ?_, ?_⟩
  · rw [List.singleton_append, List.pairwise_cons]
    exact ⟨hhi, List.Pairwise.sublist (List.drop_sublist _ _) hr⟩
  · intro a ha b hb
    rw [List.singleton_append, List.mem_cons] at hb
    rcases hb with rfl | hb
    · exact hlo a ha
    · exact cmpL_trans (hlo a ha) (hhi b hb)
theorem mem_ins {rows : List (List Int)} {r x : List Int} : x ∈ insR rows r ↔ x = r ∨ x ∈ rows := by
  unfold insR
  rw [List.append_assoc, List.mem_append, List.singleton_append, List.mem_cons]
  have : x ∈ rows ↔ x ∈ rows.take (posn rows r) ∨ x ∈ rows.drop (posn rows r) := by
    rw [← List.mem_append, List.take_append_drop]
  rw [this]
  constructor
  · rintro (h | h | h)
    · exact .inr (.inl h)
    · exact .inl h
    · exact .inr (.inr h)
  · rintro (h | h | h)
    · exact .inr (.inl h)
    · exact .inl h
    · exact .inr (.inr h)
theorem rowsV_ins {T : Nat → Prop} {w : AW} {cs : List V} {rows : List (List Int)} {v : V} {r : List Int} {i : Nat} (h : RowsV T w cs rows) (hv : RowV T w v r) (hi : i ≤ rows.length) : RowsV T w (cs.take i ++ [v] ++ cs.drop i) (rows.take i ++ [r] ++ rows.drop i) := by
  have h1 := h.1
  refine ⟨by simp [h1], fun k x l hx hl => ?_⟩
  rw [List.append_assoc] at hx hl
  by_cases hk : k < i
  · rw [List.getElem?_append_left (by simp; omega), List.getElem?_take_of_lt hk] at hx hl
    exact h.2 k x l hx hl
  · rw [List.getElem?_append_right (by simp; omega)] at hx hl
    have e1 : (cs.take i).length = i := by simp; omega
    have e2 : (rows.take i).length = i := by simp; omega
    rw [e1] at hx; rw [e2] at hl
    by_cases hk2 : k = i
    · subst hk2; simp at hx hl; rw [← hx, ← hl]; exact hv
    · obtain ⟨m, hm⟩ : ∃ m, k - i = m + 1 := ⟨k - i - 1, by omega⟩
      rw [hm] at hx hl
      simp at hx hl
      exact h.2 _ x l hx hl
theorem rowsV_one {T : Nat → Prop} {w : AW} {cs : List V} {rows : List (List Int)} (h : RowsV T w cs rows) : allOne cs = true := by
  rw [allOne_iff]
  intro v hv
  obtain ⟨i, hi, e⟩ := List.mem_iff_getElem.1 hv
  have hi' : i < rows.length := by rw [← h.1]; exact hi
  have := h.2 i v _ (by rw [List.getElem?_eq_getElem hi, e]) (List.getElem?_eq_getElem hi')
  rcases this.inv with ⟨rfl, _⟩ | ⟨b, c, rfl, _⟩ <;> rfl
theorem RowV.cells {T : Nat → Prop} {w : AW} {v : V} {l : List Int} (h : RowV T w v l) : v.cells = [v] := by
  rcases h.inv with ⟨rfl, _⟩ | ⟨b, c, rfl, _⟩ <;> rfl
theorem RowV.isOne {T : Nat → Prop} {w : AW} {v : V} {l : List Int} (h : RowV T w v l) : v.one = true := by
  rcases h.inv with ⟨rfl, _⟩ | ⟨b, c, rfl, _⟩ <;> rfl
/-- (*Set).Add. -/
theorem add_ok (C : Codes tab) (hP : ∀ args aw v aw', insPrim 24 args aw = some (v, aw') → tab.prim 54 args aw v aw') {S U : Nat → Prop} {p rv : V} {width : Nat} {rows : List (List Int)} {r : List Int} {aw : AW} {K : V → AW → Prop} (hs : SetOf S aw p width rows) (hr : RowV U aw rv r) (hn : rows.length ≤ 1000000) (hlr : r.length ≤ 1000)
    (h1 : ¬ (r.length = width ∧ r ∉ rows) → K (.bool false) aw) (h2 : r.length = width → r ∉ rows → ∀ w S', SetOf S' w p width (insR rows r) → Frm S aw w → Grown S S' aw w → K (.bool true) w) : WF tab 33 [p, rv] aw K := by
  obtain ⟨bp, lv, cs, S0, T, rfl, hs⟩ := hs
  refine WF_of C.c33 rfl ?_
  refine WS_run 1000 (by simp only [go_sem, Nat.reduceAdd, Nat.reduceLT, Nat.reduceEqDiff, reduceIte, reduceCtorEq, Int.reduceBEq, Int.reduceBNe, Int.reduceLT, Int.reduceLE, Int.reduceGT, Int.reduceGE, Int.reduceEq, Int.reduceAdd, Int.reduceSub, Int.reduceMul, Nat.reduceMul, Nat.reduceSub, Nat.reduceLeDiff, k33]; rfl) ?_
  refine WS_call (by simp only [go_sem, Nat.reduceAdd, Nat.reduceLT, Nat.reduceEqDiff, reduceIte, reduceCtorEq, Int.reduceBEq, Int.reduceBNe, Int.reduceLT, Int.reduceLE, Int.reduceGT, Int.reduceGE, Int.reduceEq, Int.reduceAdd, Int.reduceSub, Int.reduceMul, Nat.reduceMul, Nat.reduceSub, Nat.reduceLeDiff]) (by simp only [go_sem, Nat.reduceAdd, Nat.reduceLT, Nat.reduceEqDiff, reduceIte, reduceCtorEq, Int.reduceBEq, Int.reduceBNe, Int.reduceLT, Int.reduceLE, Int.reduceGT, Int.reduceGE, Int.reduceEq, Int.reduceAdd, Int.reduceSub, Int.reduceMul, Nat.reduceMul, Nat.reduceSub, Nat.reduceLeDiff]; rfl) ?_
  refine find_ok C hs hr hn hlr ?_ ?_
  · intro hw
    have e1 : decide ((-1 : Int) < 0) = true := rfl
    refine WS_run 1000 (by simp only [go_sem, Nat.reduceAdd, Nat.reduceLT, Nat.reduceEqDiff, reduceIte, reduceCtorEq, Int.reduceBEq, Int.reduceBNe, Int.reduceLT, Int.reduceLE, Int.reduceGT, Int.reduceGE, Int.reduceEq, Int.reduceAdd, Int.reduceSub, Int.reduceMul, Nat.reduceMul, Nat.reduceSub, Nat.reduceLeDiff, e1]; rfl) ?_
    refine WS_ret ⟨_, by simp only [go_sem, Nat.reduceAdd, Nat.reduceLT, Nat.reduceEqDiff, reduceIte, reduceCtorEq, Int.reduceBEq, Int.reduceBNe, Int.reduceLT, Int.reduceLE, Int.reduceGT, Int.reduceGE, Int.reduceEq, Int.reduceAdd, Int.reduceSub, Int.reduceMul, Nat.reduceMul, Nat.reduceSub, Nat.reduceLeDiff, k33]; rfl, ?_⟩
    exact h1 fun h => hw h.1
  · intro hw
    by_cases hm : r ∈ rows
    · have e1 : ¬ posn rows r < 0 := by omega
      refine WS_run 1000 (by simp only [go_sem, Nat.reduceAdd, Nat.reduceLT, Nat.reduceEqDiff, reduceIte, reduceCtorEq, Int.reduceBEq, Int.reduceBNe, Int.reduceLT, Int.reduceLE, Int.reduceGT, Int.reduceGE, Int.reduceEq, Int.reduceAdd, Int.reduceSub, Int.reduceMul, Nat.reduceMul, Nat.reduceSub, Nat.reduceLeDiff, hm, e1]; rfl) ?_
      refine WS_ret ⟨_, by simp only [go_sem, Nat.reduceAdd, Nat.reduceLT, Nat.reduceEqDiff, reduceIte, reduceCtorEq, Int.reduceBEq, Int.reduceBNe, Int.reduceLT, Int.reduceLE, Int.reduceGT, Int.reduceGE, Int.reduceEq, Int.reduceAdd, Int.reduceSub, Int.reduceMul, Nat.reduceMul, Nat.reduceSub, Nat.reduceLeDiff, k33]; rfl, ?_⟩
      exact h1 fun h => h.2 hm
    · have e1 : ¬ posn rows r < 0 := by omega
      refine WS_run 1000 (by simp only [go_sem, Nat.reduceAdd, Nat.reduceLT, Nat.reduceEqDiff, reduceIte, reduceCtorEq, Int.reduceBEq, Int.reduceBNe, Int.reduceLT, Int.reduceLE, Int.reduceGT, Int.reduceGE, Int.reduceEq, Int.reduceAdd, Int.reduceSub, Int.reduceMul, Nat.reduceMul, Nat.reduceSub, Nat.reduceLeDiff, hm, e1]; rfl) ?_
      have l1 := hs.load1
      refine WS_drawn ?_
      refine WDs_run 100 (by simp only [go_sem, Nat.reduceAdd, Nat.reduceLT, Nat.reduceEqDiff, reduceIte, reduceCtorEq, Int.reduceBEq, Int.reduceBNe, Int.reduceLT, Int.reduceLE, Int.reduceGT, Int.reduceGE, Int.reduceEq, Int.reduceAdd, Int.reduceSub, Int.reduceMul, Nat.reduceMul, Nat.reduceSub, Nat.reduceLeDiff, l1]; rfl) ?_
      refine WDs_call (by simp only [go_sem, Nat.reduceAdd, Nat.reduceLT, Nat.reduceEqDiff, reduceIte, reduceCtorEq, Int.reduceBEq, Int.reduceBNe, Int.reduceLT, Int.reduceLE, Int.reduceGT, Int.reduceGE, Int.reduceEq, Int.reduceAdd, Int.reduceSub, Int.reduceMul, Nat.reduceMul, Nat.reduceSub, Nat.reduceLeDiff]) (by simp only [go_sem, Nat.reduceAdd, Nat.reduceLT, Nat.reduceEqDiff, reduceIte, reduceCtorEq, Int.reduceBEq, Int.reduceBNe, Int.reduceLT, Int.reduceLE, Int.reduceGT, Int.reduceGE, Int.reduceEq, Int.reduceAdd, Int.reduceSub, Int.reduceMul, Nat.reduceMul, Nat.reduceSub, Nat.reduceLeDiff]; rfl) ?_
      refine clone_ok C hr hlr fun v w hv hf => ?_
      have hvc := hv.cells
      refine WDs_run 100 (by simp only [go_sem, Nat.reduceAdd, Nat.reduceLT, Nat.reduceEqDiff, reduceIte, reduceCtorEq, Int.reduceBEq, Int.reduceBNe, Int.reduceLT, Int.reduceLE, Int.reduceGT, Int.reduceGE, Int.reduceEq, Int.reduceAdd, Int.reduceSub, Int.reduceMul, Nat.reduceMul, Nat.reduceSub, Nat.reduceLeDiff, evParts, fillV, over, hvc, List.length_cons, List.length_nil]; rfl) ?_
      refine WDs_call (by simp only [go_sem, Nat.reduceAdd, Nat.reduceLT, Nat.reduceEqDiff, reduceIte, reduceCtorEq, Int.reduceBEq, Int.reduceBNe, Int.reduceLT, Int.reduceLE, Int.reduceGT, Int.reduceGE, Int.reduceEq, Int.reduceAdd, Int.reduceSub, Int.reduceMul, Nat.reduceMul, Nat.reduceSub, Nat.reduceLeDiff]) (by simp only [go_sem, Nat.reduceAdd, Nat.reduceLT, Nat.reduceEqDiff, reduceIte, reduceCtorEq, Int.reduceBEq, Int.reduceBNe, Int.reduceLT, Int.reduceLE, Int.reduceGT, Int.reduceGE, Int.reduceEq, Int.reduceAdd, Int.reduceSub, Int.reduceMul, Nat.reduceMul, Nat.reduceSub, Nat.reduceLeDiff]; rfl) ?_
      have hfa : Frm (fun _ => False) aw (w.fresh [v]) := hf.trans (Frm.new _ _) (fun _ _ h => h) fun _ _ h => h
      have hsa := hs.frm hfa fun _ _ h => h
      have hsw := hs.frm hf fun _ _ h => h
      have hnS0 : ¬ S0 w.next := fun h => by have := (hs.h0 _ h).2.2; have := hf.next; omega
      refine insert_ok C hP hsa.hb (i := posn rows r) (posn_le _ _) (AE.T.get_put_same (k := w.next)) hnS0 hv.isOne (rowsV_one hsa.hv) hn fun lv' w2 S' q1 q2 q3 => ?_
      have hbp2 : ¬ S0 bp := fun h => (hs.h0 _ h).2.1 rfl
      have hx2 : w2.heap.get bp = some (.cells [.int .i64 (Int.ofNat width), lv] .own) := (q2.heap _ hsa.lt hbp2).trans hsa.hx
      have l2 : w2.load bp 1 1 = some [lv] := by simp only [AW.load, hx2, AW.alive, List.drop_succ_cons, List.drop_zero, takeN]
      have hlv' : lv'.one = true := by rcases q1.inv with ⟨rfl, _⟩ | ⟨b, rfl, _⟩ <;> rfl
      have hlc' : lv'.cells = [lv'] := by rcases q1.inv with ⟨rfl, _⟩ | ⟨b, rfl, _⟩ <;> rfl
      have hst := store_cell (i := 1) (v := lv') hx2 (by simp) hlv'
      refine WDs_run 100 (by simp only [go_sem, Nat.reduceAdd, Nat.reduceLT, Nat.reduceEqDiff, reduceIte, reduceCtorEq, Int.reduceBEq, Int.reduceBNe, Int.reduceLT, Int.reduceLE, Int.reduceGT, Int.reduceGE, Int.reduceEq, Int.reduceAdd, Int.reduceSub, Int.reduceMul, Nat.reduceMul, Nat.reduceSub, Nat.reduceLeDiff, hlc', hst, List.length_cons, List.length_nil]; rfl) ?_
      have la := hsa.load1
      have lw := hsw.load1
      refine WDs_nil ⟨(show chkAll _ _ [(4, 7), (4, 8)] from by simp only [go_sem, Nat.reduceAdd, Nat.reduceLT, Nat.reduceEqDiff, reduceIte, reduceCtorEq, Int.reduceBEq, Int.reduceBNe, Int.reduceLT, Int.reduceLE, Int.reduceGT, Int.reduceGE, Int.reduceEq, Int.reduceAdd, Int.reduceSub, Int.reduceMul, Nat.reduceMul, Nat.reduceSub, Nat.reduceLeDiff, chkAll, chk, List.reverse_cons, List.reverse_nil, mkStp_fe, mkStp_v, mkStp_0, mkStp_1, List.getElem?_nil, false_or, or_true, or_false, exists_eq', Option.some.injEq, Prod.mk.injEq, Bool.true_eq_false, Bool.false_eq_true, and_true, true_and, implies_true,  l1, la, lw]), ?_⟩
      refine WS_run 1000 (by simp only [go_sem, Nat.reduceAdd, Nat.reduceLT, Nat.reduceEqDiff, reduceIte, reduceCtorEq, Int.reduceBEq, Int.reduceBNe, Int.reduceLT, Int.reduceLE, Int.reduceGT, Int.reduceGE, Int.reduceEq, Int.reduceAdd, Int.reduceSub, Int.reduceMul, Nat.reduceMul, Nat.reduceSub, Nat.reduceLeDiff]; rfl) ?_
      refine WS_ret ⟨_, by simp only [go_sem, Nat.reduceAdd, Nat.reduceLT, Nat.reduceEqDiff, reduceIte, reduceCtorEq, Int.reduceBEq, Int.reduceBNe, Int.reduceLT, Int.reduceLE, Int.reduceGT, Int.reduceGE, Int.reduceEq, Int.reduceAdd, Int.reduceSub, Int.reduceMul, Nat.reduceMul, Nat.reduceSub, Nat.reduceLeDiff, k33]; rfl, ?_⟩
      have hnx : (w.fresh [v]).next = w.next + 1 := rfl
      have hn1 := hf.next
      have hn2 := q2.next
      have hlt := hs.lt
      have hturn : Frm (fun b => b = bp) w2 (w2.turn bp (.cells ([.int .i64 (Int.ofNat width), lv].set 1 lv') .own)) := turn_frm rfl (.inl rfl)
      have hvf : RowV (fun b => aw.next ≤ b ∧ b < w.next) (w.fresh [v]) v r := hv.frm (S := fun _ => False) (Frm.new _ _) fun _ _ h => h
      have hv2 : RowV (fun b => aw.next ≤ b ∧ b < w.next) w2 v r := hvf.frm q2 fun x hx h => by have := (hs.h0 x h).2.2; omega
      have hr2 : RowsV T w2 cs rows := hsa.hv.frm q2 fun x hx h => (hs.hT x hx).2.2.1 h
      refine h2 hw hm _ (fun b => S b ∨ (aw.next ≤ b ∧ b < w2.next)) ⟨bp, lv', cs.take (posn rows r) ++ [v] ++ cs.drop (posn rows r), S', fun b => T b ∨ (aw.next ≤ b ∧ b < w.next), rfl, ?_⟩ ?_ ?_
      · refine ⟨.inl hs.hp, ?_, AE.T.get_put_same, ?_, ?_, ?_, ?_, ?_, rise_ins hs.rise hm, ?_, hs.w4⟩
        · show bp < w2.next; omega
        · intro b hb
          obtain ⟨g1, g2⟩ := q3 b hb
          rcases g2 with g2 | g2
          · have := hs.h0 b g2
            exact ⟨.inl this.1, this.2.1, g1⟩
          · exact ⟨.inr ⟨by omega, g1⟩, by omega, g1⟩
        · rintro b (hb | hb)
          · have := hs.hT b hb
            refine ⟨.inl this.1, this.2.1, fun h => ?_, Nat.lt_of_lt_of_le this.2.2.2 (show aw.next ≤ w2.next by omega)⟩
            rcases (q3 b h).2 with g | g
            · exact this.2.2.1 g
            · have := this.2.2.2; omega
          · refine ⟨.inr ⟨hb.1, by omega⟩, by omega, fun h => ?_, show b < w2.next by omega⟩
            rcases (q3 b h).2 with g | g
            · have := (hs.h0 b g).2.2; omega
            · omega
        · rintro b (hb | hb)
          · have := hs.hS b hb; show b < w2.next; omega
          · exact hb.2
        · have e : (insR rows r).length = rows.length + 1 := by
            have := posn_le rows r
            simp [insR]; omega
          rw [e]
          refine q1.frm hturn fun x hx h => ?_
          subst h
          rcases (q3 x hx).2 with g | g
          · exact hbp2 g
          · omega
        · refine rowsV_ins ((hr2.mono fun x h => .inl h).frm hturn fun x hx h => ?_) ((hv2.mono fun x h => .inr h).frm hturn fun x hx h => ?_) (posn_le _ _)
          · subst h
            rcases hx with g | g
            · exact (hs.hT _ g).2.1 rfl
            · omega
          · subst h
            rcases hx with g | g
            · exact (hs.hT _ g).2.1 rfl
            · omega
        · intro x hx
          rcases mem_ins.1 hx with rfl | hx
          · exact hw
          · exact hs.wid x hx
      · refine (hfa.trans q2 (U := S) (fun _ _ h => h.elim) fun x _ h => (hs.h0 x h).1).trans hturn (fun _ _ h => h) ?_
        rintro x _ rfl; exact hs.hp
      · rintro b (hb | hb)
        · exact ⟨by have := hs.hS b hb; show b < w2.next; omega, .inl hb⟩
        · exact ⟨hb.2, .inr hb.1⟩
end Go.Proofs.Ytjidefnbancmfaa
