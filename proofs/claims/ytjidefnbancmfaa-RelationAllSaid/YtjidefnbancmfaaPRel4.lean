/- Relation: taking out, asking, how many. -/
import Derived.Test.YtjidefnbancmfaaPRel3
import Derived.Test.YtjidefnbancmfaaAgW
set_option linter.unusedVariables false
set_option linter.unusedSimpArgs false
namespace Go.Proofs.Ytjidefnbancmfaa
open Go.AE
variable {tab : Tab}
/-- slices.Delete, of one element. -/
theorem delete_ok (C : Codes tab) {S : Nat → Prop} {b n i : Nat} {cs : List V} {aw : AW} {K : V → AW → Prop} (hb : Buf S aw (.slice b 0 n (.upTo 1)) 1 n cs) (hi : i < n) (h2 : allOne cs = true) (hn : n ≤ 1000000)
    (h : ∀ w, Buf S w (.slice b 0 (n - 1) (.upTo 1)) 1 (n - 1) (cs.eraseIdx i) → Frm S aw w → w.next = aw.next → K (.slice b 0 (n - 1) (.upTo 1)) w) : WF tab 56 [.slice b 0 n (.upTo 1), .int .i64 (Int.ofNat i), .int .i64 (Int.ofNat (i + 1))] aw K := by
  refine WF_of C.c56 rfl ?_
  have hcl := hb.len
  rw [Nat.mul_one] at hcl
  obtain ⟨w1, l, sh, w2, q1, q2, q3, q4, q5, q6, q7, q8⟩ := hb.cutE hi h2 hn
  have f1 : i + 1 ≤ n := hi
  have f2 : i ≤ i + 1 := by omega
  have f3 : ¬ i = i + 1 := by omega
  have f4 : i ≤ n := by omega
  refine WS_run 1000 (by simp only [go_sem, Nat.reduceAdd, Nat.reduceLT, Nat.reduceEqDiff, reduceIte, reduceCtorEq, Int.reduceBEq, Int.reduceBNe, Int.reduceLT, Int.reduceLE, Int.reduceGT, Int.reduceGE, Int.reduceEq, Int.reduceAdd, Int.reduceSub, Int.reduceMul, Nat.reduceMul, Nat.reduceSub, Nat.reduceLeDiff, k56, AW.sliceW, sliceV, f1, f2, hi, f3, Option.isSome_some]; rfl) ?_
  refine WS_drawn ?_
  have hel : aw.elems 1 (.slice b (0 + (i + 1) * 1) (n - (i + 1)) (.upTo 1)) = some (n - (i + 1), cs.drop (i + 1)) := by
    cases hk : n - (i + 1) with
    | zero => rw [List.drop_eq_nil_of_le (by omega)]; rfl
    | succ k =>
      have := hb.load (o := 0 + (i + 1) * 1) (k := k + 1) (by omega)
      simp only [AW.elems, Nat.mul_one]
      rw [Nat.mul_one] at this
      rw [this, Nat.zero_add, List.take_of_length_le (by rw [List.length_drop]; omega)]
  refine WDs_run 100 (by simp only [go_sem, Nat.reduceAdd, Nat.reduceLT, Nat.reduceEqDiff, reduceIte, reduceCtorEq, Int.reduceBEq, Int.reduceBNe, Int.reduceLT, Int.reduceLE, Int.reduceGT, Int.reduceGE, Int.reduceEq, Int.reduceAdd, Int.reduceSub, Int.reduceMul, Nat.reduceMul, Nat.reduceSub, Nat.reduceLeDiff, AW.sliceW, sliceV, f1, f4, Nat.zero_le, Nat.sub_zero, hel, q1]; rfl) ?_
  refine WDs_nil ⟨(show chkAll _ _ [] from by simp only [go_sem, Nat.reduceAdd, Nat.reduceLT, Nat.reduceEqDiff, reduceIte, reduceCtorEq, Int.reduceBEq, Int.reduceBNe, Int.reduceLT, Int.reduceLE, Int.reduceGT, Int.reduceGE, Int.reduceEq, Int.reduceAdd, Int.reduceSub, Int.reduceMul, Nat.reduceMul, Nat.reduceSub, Nat.reduceLeDiff, chkAll, chk, List.reverse_cons, List.reverse_nil, mkStp_fe, mkStp_v, mkStp_0, mkStp_1, List.getElem?_nil, false_or, or_true, or_false, exists_eq', Option.some.injEq, Prod.mk.injEq, Bool.true_eq_false, Bool.false_eq_true, and_true, true_and, implies_true]), ?_⟩
  have g1 : ¬ n ≤ n - 1 := by omega
  have g2 : n - 1 < n := by omega
  have g3 : 0 + n * 1 ≤ l.length := by omega
  have g4 : n - (n - 1) = 1 := by omega
  have g5 : 0 + (n - 1) * 1 = n - 1 := by omega
  have g6 : (0 : Nat) < 1 := by omega
  have g7 : n - 1 ≤ n := by omega
  refine WS_run 1000 (by simp only [go_sem, Nat.reduceAdd, Nat.reduceLT, Nat.reduceEqDiff, reduceIte, reduceCtorEq, Int.reduceBEq, Int.reduceBNe, Int.reduceLT, Int.reduceLE, Int.reduceGT, Int.reduceGE, Int.reduceEq, Int.reduceAdd, Int.reduceSub, Int.reduceMul, Nat.reduceMul, Nat.reduceSub, Nat.reduceLeDiff, AW.sliceW, sliceV, AW.sliceUp, g1, g2, g3, g4, g5, g6, g7, q2, q3, false_and, List.replicate_succ, List.replicate_zero, List.flatten_cons, List.flatten_nil, q5]; rfl) ?_
  refine WS_ret ⟨_, by simp only [go_sem, Nat.reduceAdd, Nat.reduceLT, Nat.reduceEqDiff, reduceIte, reduceCtorEq, Int.reduceBEq, Int.reduceBNe, Int.reduceLT, Int.reduceLE, Int.reduceGT, Int.reduceGE, Int.reduceEq, Int.reduceAdd, Int.reduceSub, Int.reduceMul, Nat.reduceMul, Nat.reduceSub, Nat.reduceLeDiff, k56]; rfl, ?_⟩
  exact h _ q6 q7 q8
theorem erase_sub {α : Type} (l : List α) (i : Nat) : (l.eraseIdx i).Sublist l := List.eraseIdx_sublist l i
theorem rowsV_erase {T : Nat → Prop} {w : AW} {cs : List V} {rows : List (List Int)} {i : Nat} (h : RowsV T w cs rows) : RowsV T w (cs.eraseIdx i) (rows.eraseIdx i) := by
  refine ⟨by rw [List.length_eraseIdx, List.length_eraseIdx, h.1], fun k x l hx hl => ?_⟩
  rw [List.getElem?_eraseIdx] at hx hl
  split at hx
  · rename_i hk; rw [if_pos hk] at hl; exact h.2 _ _ _ hx hl
  · rename_i hk; rw [if_neg hk] at hl; exact h.2 _ _ _ hx hl
/-- where a row stands that is there. -/
theorem posn_mem {rows : List (List Int)} {r : List Int} (hr : Rise rows) (hm : r ∈ rows) : rows[posn rows r]? = some r :=
  (mem_posn hr (posn_le rows r) (fun j x hj hx => posn_lt j x hj hx) (fun x hx => posn_ge x hx)).1 hm
/-- (*Set).Remove. -/
theorem remove_ok (C : Codes tab) {S U : Nat → Prop} {p rv : V} {width : Nat} {rows : List (List Int)} {r : List Int} {aw : AW} {K : V → AW → Prop} (hs : SetOf S aw p width rows) (hr : RowV U aw rv r) (hn : rows.length ≤ 1000000) (hlr : r.length ≤ 1000)
    (h1 : r ∉ rows → K (.bool false) aw) (h2 : r ∈ rows → ∀ w, SetOf S w p width (rows.eraseIdx (posn rows r)) → Frm S aw w → w.next = aw.next → K (.bool true) w) : WF tab 34 [p, rv] aw K := by
  obtain ⟨bp, lv, cs, S0, T, rfl, hs⟩ := hs
  refine WF_of C.c34 rfl ?_
  refine WS_run 1000 (by simp only [go_sem, Nat.reduceAdd, Nat.reduceLT, Nat.reduceEqDiff, reduceIte, reduceCtorEq, Int.reduceBEq, Int.reduceBNe, Int.reduceLT, Int.reduceLE, Int.reduceGT, Int.reduceGE, Int.reduceEq, Int.reduceAdd, Int.reduceSub, Int.reduceMul, Nat.reduceMul, Nat.reduceSub, Nat.reduceLeDiff, k34]; rfl) ?_
  refine WS_call (by simp only [go_sem, Nat.reduceAdd, Nat.reduceLT, Nat.reduceEqDiff, reduceIte, reduceCtorEq, Int.reduceBEq, Int.reduceBNe, Int.reduceLT, Int.reduceLE, Int.reduceGT, Int.reduceGE, Int.reduceEq, Int.reduceAdd, Int.reduceSub, Int.reduceMul, Nat.reduceMul, Nat.reduceSub, Nat.reduceLeDiff]) (by simp only [go_sem, Nat.reduceAdd, Nat.reduceLT, Nat.reduceEqDiff, reduceIte, reduceCtorEq, Int.reduceBEq, Int.reduceBNe, Int.reduceLT, Int.reduceLE, Int.reduceGT, Int.reduceGE, Int.reduceEq, Int.reduceAdd, Int.reduceSub, Int.reduceMul, Nat.reduceMul, Nat.reduceSub, Nat.reduceLeDiff]; rfl) ?_
  have hwid : r ∈ rows → r.length = width := fun h => hs.wid r h
  refine find_ok C hs hr hn hlr ?_ ?_
  · intro hw
    refine WS_run 1000 (by simp only [go_sem, Nat.reduceAdd, Nat.reduceLT, Nat.reduceEqDiff, reduceIte, reduceCtorEq, Int.reduceBEq, Int.reduceBNe, Int.reduceLT, Int.reduceLE, Int.reduceGT, Int.reduceGE, Int.reduceEq, Int.reduceAdd, Int.reduceSub, Int.reduceMul, Nat.reduceMul, Nat.reduceSub, Nat.reduceLeDiff]; rfl) ?_
    refine WS_ret ⟨_, by simp only [go_sem, Nat.reduceAdd, Nat.reduceLT, Nat.reduceEqDiff, reduceIte, reduceCtorEq, Int.reduceBEq, Int.reduceBNe, Int.reduceLT, Int.reduceLE, Int.reduceGT, Int.reduceGE, Int.reduceEq, Int.reduceAdd, Int.reduceSub, Int.reduceMul, Nat.reduceMul, Nat.reduceSub, Nat.reduceLeDiff, k34]; rfl, ?_⟩
    exact h1 fun h => hw (hwid h)
  · intro hw
    by_cases hm : r ∈ rows
    · have hg := posn_mem hs.rise hm
      have hlt : posn rows r < rows.length := (List.getElem?_eq_some_iff.1 hg).1
      have l1 := hs.load1
      have wr : IntKind.wrap .i64 (Int.ofNat (posn rows r) + 1) = Int.ofNat (posn rows r + 1) := wrap_succ (by omega)
      refine WS_run 1000 (by simp only [go_sem, Nat.reduceAdd, Nat.reduceLT, Nat.reduceEqDiff, reduceIte, reduceCtorEq, Int.reduceBEq, Int.reduceBNe, Int.reduceLT, Int.reduceLE, Int.reduceGT, Int.reduceGE, Int.reduceEq, Int.reduceAdd, Int.reduceSub, Int.reduceMul, Nat.reduceMul, Nat.reduceSub, Nat.reduceLeDiff, hm, l1, wr]; rfl) ?_
      refine WS_call (by simp only [go_sem, Nat.reduceAdd, Nat.reduceLT, Nat.reduceEqDiff, reduceIte, reduceCtorEq, Int.reduceBEq, Int.reduceBNe, Int.reduceLT, Int.reduceLE, Int.reduceGT, Int.reduceGE, Int.reduceEq, Int.reduceAdd, Int.reduceSub, Int.reduceMul, Nat.reduceMul, Nat.reduceSub, Nat.reduceLeDiff]) (by simp only [go_sem, Nat.reduceAdd, Nat.reduceLT, Nat.reduceEqDiff, reduceIte, reduceCtorEq, Int.reduceBEq, Int.reduceBNe, Int.reduceLT, Int.reduceLE, Int.reduceGT, Int.reduceGE, Int.reduceEq, Int.reduceAdd, Int.reduceSub, Int.reduceMul, Nat.reduceMul, Nat.reduceSub, Nat.reduceLeDiff]; rfl) ?_
      rcases hs.hb.inv with ⟨_, h0, _⟩ | ⟨b, rfl, hSb, _⟩
      · omega
      refine delete_ok C hs.hb hlt (rowsV_one hs.hv) hn fun w q1 q2 q3 => ?_
      have hbp2 : ¬ S0 bp := fun h => (hs.h0 _ h).2.1 rfl
      have hx2 : w.heap.get bp = some (.cells [.int .i64 (Int.ofNat width), .slice b 0 rows.length (.upTo 1)] .own) := (q2.heap _ hs.lt hbp2).trans hs.hx
      have hst := store_cell (i := 1) (v := .slice b 0 (rows.length - 1) (.upTo 1)) hx2 (by simp) rfl
      refine WS_run 1000 (by simp only [go_sem, Nat.reduceAdd, Nat.reduceLT, Nat.reduceEqDiff, reduceIte, reduceCtorEq, Int.reduceBEq, Int.reduceBNe, Int.reduceLT, Int.reduceLE, Int.reduceGT, Int.reduceGE, Int.reduceEq, Int.reduceAdd, Int.reduceSub, Int.reduceMul, Nat.reduceMul, Nat.reduceSub, Nat.reduceLeDiff, V.cells, hst, List.length_cons, List.length_nil]; rfl) ?_
      refine WS_ret ⟨_, by simp only [go_sem, Nat.reduceAdd, Nat.reduceLT, Nat.reduceEqDiff, reduceIte, reduceCtorEq, Int.reduceBEq, Int.reduceBNe, Int.reduceLT, Int.reduceLE, Int.reduceGT, Int.reduceGE, Int.reduceEq, Int.reduceAdd, Int.reduceSub, Int.reduceMul, Nat.reduceMul, Nat.reduceSub, Nat.reduceLeDiff, k34]; rfl, ?_⟩
      have hturn : Frm (fun b => b = bp) w (w.turn bp (.cells ([.int .i64 (Int.ofNat width), .slice b 0 rows.length (.upTo 1)].set 1 (.slice b 0 (rows.length - 1) (.upTo 1))) .own)) := turn_frm rfl (.inl rfl)
      refine h2 hm _ ⟨bp, .slice b 0 (rows.length - 1) (.upTo 1), cs.eraseIdx (posn rows r), S0, T, rfl, ⟨hs.hp, by show bp < w.next; rw [q3]; exact hs.lt, AE.T.get_put_same, fun x hx => ⟨(hs.h0 x hx).1, (hs.h0 x hx).2.1, by show x < w.next; rw [q3]; exact (hs.h0 x hx).2.2⟩,
        fun x hx => ⟨(hs.hT x hx).1, (hs.hT x hx).2.1, (hs.hT x hx).2.2.1, by show x < w.next; rw [q3]; exact (hs.hT x hx).2.2.2⟩, fun x hx => by show x < w.next; rw [q3]; exact hs.hS x hx, ?_, ?_, hs.rise.sublist (erase_sub _ _), fun x hx => hs.wid x ((erase_sub _ _).mem hx), hs.w4⟩⟩ ?_ q3
      · rw [List.length_eraseIdx, if_pos hlt]
        exact q1.frm hturn fun x hx h => (hs.h0 x hx).2.1 h
      · exact ((rowsV_erase hs.hv).frm q2 fun x hx h => (hs.hT x hx).2.2.1 h).frm hturn fun x hx h => (hs.hT x hx).2.1 h
      · refine (q2.mono (T := S) fun x _ h => (hs.h0 x h).1).trans hturn (fun _ _ h => h) ?_
        rintro x _ rfl; exact hs.hp
    · refine WS_run 1000 (by simp only [go_sem, Nat.reduceAdd, Nat.reduceLT, Nat.reduceEqDiff, reduceIte, reduceCtorEq, Int.reduceBEq, Int.reduceBNe, Int.reduceLT, Int.reduceLE, Int.reduceGT, Int.reduceGE, Int.reduceEq, Int.reduceAdd, Int.reduceSub, Int.reduceMul, Nat.reduceMul, Nat.reduceSub, Nat.reduceLeDiff, hm]; rfl) ?_
      refine WS_ret ⟨_, by simp only [go_sem, Nat.reduceAdd, Nat.reduceLT, Nat.reduceEqDiff, reduceIte, reduceCtorEq, Int.reduceBEq, Int.reduceBNe, Int.reduceLT, Int.reduceLE, Int.reduceGT, Int.reduceGE, Int.reduceEq, Int.reduceAdd, Int.reduceSub, Int.reduceMul, Nat.reduceMul, Nat.reduceSub, Nat.reduceLeDiff, k34]; rfl, ?_⟩
      exact h1 hm
/-- (*Set).Has. -/
theorem has_ok (C : Codes tab) {S U : Nat → Prop} {p rv : V} {width : Nat} {rows : List (List Int)} {r : List Int} {aw : AW} {K : V → AW → Prop} (hs : SetOf S aw p width rows) (hr : RowV U aw rv r) (hn : rows.length ≤ 1000000) (hlr : r.length ≤ 1000)
    (h : K (.bool (decide (r ∈ rows))) aw) : WF tab 35 [p, rv] aw K := by
  obtain ⟨bp, lv, cs, S0, T, rfl, hs⟩ := hs
  refine WF_of C.c35 rfl ?_
  refine WS_run 1000 (by simp only [go_sem, Nat.reduceAdd, Nat.reduceLT, Nat.reduceEqDiff, reduceIte, reduceCtorEq, Int.reduceBEq, Int.reduceBNe, Int.reduceLT, Int.reduceLE, Int.reduceGT, Int.reduceGE, Int.reduceEq, Int.reduceAdd, Int.reduceSub, Int.reduceMul, Nat.reduceMul, Nat.reduceSub, Nat.reduceLeDiff, k35]; rfl) ?_
  refine WS_call (by simp only [go_sem, Nat.reduceAdd, Nat.reduceLT, Nat.reduceEqDiff, reduceIte, reduceCtorEq, Int.reduceBEq, Int.reduceBNe, Int.reduceLT, Int.reduceLE, Int.reduceGT, Int.reduceGE, Int.reduceEq, Int.reduceAdd, Int.reduceSub, Int.reduceMul, Nat.reduceMul, Nat.reduceSub, Nat.reduceLeDiff]) (by simp only [go_sem, Nat.reduceAdd, Nat.reduceLT, Nat.reduceEqDiff, reduceIte, reduceCtorEq, Int.reduceBEq, Int.reduceBNe, Int.reduceLT, Int.reduceLE, Int.reduceGT, Int.reduceGE, Int.reduceEq, Int.reduceAdd, Int.reduceSub, Int.reduceMul, Nat.reduceMul, Nat.reduceSub, Nat.reduceLeDiff]; rfl) ?_
  refine find_ok C hs hr hn hlr ?_ ?_
  · intro hw
    have : decide (r ∈ rows) = false := decide_eq_false fun h => hw (hs.wid r h)
    rw [this] at h
    refine WS_run 1000 (by simp only [go_sem, Nat.reduceAdd, Nat.reduceLT, Nat.reduceEqDiff, reduceIte, reduceCtorEq, Int.reduceBEq, Int.reduceBNe, Int.reduceLT, Int.reduceLE, Int.reduceGT, Int.reduceGE, Int.reduceEq, Int.reduceAdd, Int.reduceSub, Int.reduceMul, Nat.reduceMul, Nat.reduceSub, Nat.reduceLeDiff]; rfl) ?_
    refine WS_ret ⟨_, by simp only [go_sem, Nat.reduceAdd, Nat.reduceLT, Nat.reduceEqDiff, reduceIte, reduceCtorEq, Int.reduceBEq, Int.reduceBNe, Int.reduceLT, Int.reduceLE, Int.reduceGT, Int.reduceGE, Int.reduceEq, Int.reduceAdd, Int.reduceSub, Int.reduceMul, Nat.reduceMul, Nat.reduceSub, Nat.reduceLeDiff, k35]; rfl, ?_⟩
    exact h
  · intro hw
    refine WS_run 1000 (by simp only [go_sem, Nat.reduceAdd, Nat.reduceLT, Nat.reduceEqDiff, reduceIte, reduceCtorEq, Int.reduceBEq, Int.reduceBNe, Int.reduceLT, Int.reduceLE, Int.reduceGT, Int.reduceGE, Int.reduceEq, Int.reduceAdd, Int.reduceSub, Int.reduceMul, Nat.reduceMul, Nat.reduceSub, Nat.reduceLeDiff]; rfl) ?_
    refine WS_ret ⟨_, by simp only [go_sem, Nat.reduceAdd, Nat.reduceLT, Nat.reduceEqDiff, reduceIte, reduceCtorEq, Int.reduceBEq, Int.reduceBNe, Int.reduceLT, Int.reduceLE, Int.reduceGT, Int.reduceGE, Int.reduceEq, Int.reduceAdd, Int.reduceSub, Int.reduceMul, Nat.reduceMul, Nat.reduceSub, Nat.reduceLeDiff, k35]; rfl, ?_⟩
    exact h
/-- (*Set).Len. -/
theorem len_ok (C : Codes tab) {S : Nat → Prop} {p : V} {width : Nat} {rows : List (List Int)} {aw : AW} {K : V → AW → Prop} (hs : SetOf S aw p width rows) (h : K (.int .i64 (Int.ofNat rows.length)) aw) : WF tab 40 [p] aw K := by
  obtain ⟨bp, lv, cs, S0, T, rfl, hs⟩ := hs
  refine WF_of C.c40 rfl ?_
  have l1 := hs.load1
  rcases hs.hb.inv with ⟨rfl, h0, _⟩ | ⟨b, rfl, hSb, _⟩
  · refine WS_run 1000 (by simp only [go_sem, Nat.reduceAdd, Nat.reduceLT, Nat.reduceEqDiff, reduceIte, reduceCtorEq, Int.reduceBEq, Int.reduceBNe, Int.reduceLT, Int.reduceLE, Int.reduceGT, Int.reduceGE, Int.reduceEq, Int.reduceAdd, Int.reduceSub, Int.reduceMul, Nat.reduceMul, Nat.reduceSub, Nat.reduceLeDiff, k40, l1, eqV]; rfl) ?_
    refine WS_ret ⟨_, by simp only [go_sem, Nat.reduceAdd, Nat.reduceLT, Nat.reduceEqDiff, reduceIte, reduceCtorEq, Int.reduceBEq, Int.reduceBNe, Int.reduceLT, Int.reduceLE, Int.reduceGT, Int.reduceGE, Int.reduceEq, Int.reduceAdd, Int.reduceSub, Int.reduceMul, Nat.reduceMul, Nat.reduceSub, Nat.reduceLeDiff, k40]; rfl, ?_⟩
    rw [h0] at h; exact h
  · refine WS_run 1000 (by simp only [go_sem, Nat.reduceAdd, Nat.reduceLT, Nat.reduceEqDiff, reduceIte, reduceCtorEq, Int.reduceBEq, Int.reduceBNe, Int.reduceLT, Int.reduceLE, Int.reduceGT, Int.reduceGE, Int.reduceEq, Int.reduceAdd, Int.reduceSub, Int.reduceMul, Nat.reduceMul, Nat.reduceSub, Nat.reduceLeDiff, k40, l1, eqV]; rfl) ?_
    refine WS_ret ⟨_, by simp only [go_sem, Nat.reduceAdd, Nat.reduceLT, Nat.reduceEqDiff, reduceIte, reduceCtorEq, Int.reduceBEq, Int.reduceBNe, Int.reduceLT, Int.reduceLE, Int.reduceGT, Int.reduceGE, Int.reduceEq, Int.reduceAdd, Int.reduceSub, Int.reduceMul, Nat.reduceMul, Nat.reduceSub, Nat.reduceLeDiff, k40]; rfl, ?_⟩
    exact h
/-- New. -/
theorem new_ok (C : Codes tab) {width : Nat} {aw : AW} {K : V → AW → Prop} (hw : width ≤ 4) (h : ∀ w, SetOf (fun b => b = aw.next) w (.ptr aw.next 0) width [] → Frm (fun _ => False) aw w → w.next = aw.next + 1 → K (.ptr aw.next 0) w) : WF tab 31 [.int .i64 (Int.ofNat width)] aw K := by
  refine WF_of C.c31 rfl ?_
  have e1 : ¬ width < 0 := by omega
  have e2 : ¬ 4 < width := by omega
  refine WS_run 1000 (by simp only [go_sem, Nat.reduceAdd, Nat.reduceLT, Nat.reduceEqDiff, reduceIte, reduceCtorEq, Int.reduceBEq, Int.reduceBNe, Int.reduceLT, Int.reduceLE, Int.reduceGT, Int.reduceGE, Int.reduceEq, Int.reduceAdd, Int.reduceSub, Int.reduceMul, Nat.reduceMul, Nat.reduceSub, Nat.reduceLeDiff, k31, e1, e2, evParts, fillV, over, V.cells, List.length_cons, List.length_nil]; rfl) ?_
  refine WS_ret ⟨_, by simp only [go_sem, Nat.reduceAdd, Nat.reduceLT, Nat.reduceEqDiff, reduceIte, reduceCtorEq, Int.reduceBEq, Int.reduceBNe, Int.reduceLT, Int.reduceLE, Int.reduceGT, Int.reduceGE, Int.reduceEq, Int.reduceAdd, Int.reduceSub, Int.reduceMul, Nat.reduceMul, Nat.reduceSub, Nat.reduceLeDiff, k31]; rfl, ?_⟩
  refine h _ ⟨aw.next, .nilslice, [], fun _ => False, fun _ => False, rfl, ⟨rfl, Nat.lt_succ_self _, AE.T.get_put_same, fun _ h => h.elim, fun _ h => h.elim, ?_, .nil, ⟨rfl, fun i v l h => by simp at h⟩, .nil, fun x hx => by simp at hx, hw⟩⟩ (Frm.new _ _) rfl
  rintro b rfl; exact Nat.lt_succ_self _
end Go.Proofs.Ytjidefnbancmfaa
