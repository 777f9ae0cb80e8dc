/- Relation: all rows, a copy; the law's own order. -/
import Derived.Test.YtjidefnbancmfaaPRel5
set_option linter.unusedVariables false
set_option linter.unusedSimpArgs false
namespace Go.Proofs.Ytjidefnbancmfaa
open Go.AE
variable {tab : Tab}
theorem zeros_row (k : Nat) : (List.replicate k [V.int .i64 0]).flatten = rowC (List.replicate k 0) := by
  induction k with
  | zero => rfl
  | succ k ih => rw [List.replicate_succ, List.flatten_cons, ih, List.replicate_succ]; rfl
theorem filter_zero (rows : List (List Int)) (k : Nat) : (rows.filter fun x => fitsR x (List.replicate k 0)) = rows := by
  rw [List.filter_eq_self]; intro x _; exact fitsR_zero x k
theorem ListOf.weaken {N M : Nat} {w : AW} {v : V} {rows : List (List Int)} {cs : List V} {S T : Nat → Prop} (h : ListOf N w v rows cs S T) (hM : M ≤ N) : ListOf M w v rows cs S T :=
  ⟨h.1, h.2.1, fun x hx => by have := h.2.2.1 x hx; exact ⟨by omega, this.2.1, this.2.2⟩, fun x hx => by have := h.2.2.2 x hx; exact ⟨by omega, this.2⟩⟩
/-- (*Set).All. -/
theorem all_ok (C : Codes tab) {S : Nat → Prop} {p : V} {width : Nat} {rows : List (List Int)} {aw : AW} {K : V → AW → Prop} (hs : SetOf S aw p width rows) (hn : rows.length ≤ 1000000)
    (h : ∀ v w cs S1 T1, ListOf aw.next w v rows cs S1 T1 → Frm (fun _ => False) aw w → K v w) : WF tab 39 [p] aw K := by
  obtain ⟨bp, lv, cs, S0, T, rfl, hs⟩ := hs
  refine WF_of C.c39 rfl ?_
  have w4 := hs.w4
  have e0 := hs.load0
  have c1 : width ≤ 70368744177664 := by omega
  have c2 : width * 8 ≤ 70368744177664 := by omega
  refine WS_run 1000 (by simp only [go_sem, Nat.reduceAdd, Nat.reduceLT, Nat.reduceEqDiff, reduceIte, reduceCtorEq, Int.reduceBEq, Int.reduceBNe, Int.reduceLT, Int.reduceLE, Int.reduceGT, Int.reduceGE, Int.reduceEq, Int.reduceAdd, Int.reduceSub, Int.reduceMul, Nat.reduceMul, Nat.reduceSub, Nat.reduceLeDiff, k39, eqV, e0, c1, c2, zeros_row]; rfl) ?_
  refine WS_call (by simp only [go_sem, Nat.reduceAdd, Nat.reduceLT, Nat.reduceEqDiff, reduceIte, reduceCtorEq, Int.reduceBEq, Int.reduceBNe, Int.reduceLT, Int.reduceLE, Int.reduceGT, Int.reduceGE, Int.reduceEq, Int.reduceAdd, Int.reduceSub, Int.reduceMul, Nat.reduceMul, Nat.reduceSub, Nat.reduceLeDiff]) (by simp only [go_sem, Nat.reduceAdd, Nat.reduceLT, Nat.reduceEqDiff, reduceIte, reduceCtorEq, Int.reduceBEq, Int.reduceBNe, Int.reduceLT, Int.reduceLE, Int.reduceGT, Int.reduceGE, Int.reduceEq, Int.reduceAdd, Int.reduceSub, Int.reduceMul, Nat.reduceMul, Nat.reduceSub, Nat.reduceLeDiff]; rfl) ?_
  have hf : Frm (fun _ => False) aw (aw.fresh (rowC (List.replicate width 0))) := Frm.new _ _
  have hs' : SetOf S (aw.fresh (rowC (List.replicate width 0))) (.ptr bp 0) width rows := ⟨bp, lv, cs, S0, T, rfl, hs.frm hf fun _ _ h => h⟩
  refine match_ok C (pat := List.replicate width 0) hs' (.blk (T := fun b => b = aw.next) rfl (Nat.lt_succ_self _) AE.T.get_put_same (by simp)) hn (by simp; omega) (fun h => absurd (by simp) h) ?_
  intro _ v w cs' S1 T1 hl hf2
  rw [filter_zero] at hl
  refine WS_run 1000 (by simp only [go_sem, Nat.reduceAdd, Nat.reduceLT, Nat.reduceEqDiff, reduceIte, reduceCtorEq, Int.reduceBEq, Int.reduceBNe, Int.reduceLT, Int.reduceLE, Int.reduceGT, Int.reduceGE, Int.reduceEq, Int.reduceAdd, Int.reduceSub, Int.reduceMul, Nat.reduceMul, Nat.reduceSub, Nat.reduceLeDiff]; rfl) ?_
  refine WS_ret ⟨_, by simp only [go_sem, Nat.reduceAdd, Nat.reduceLT, Nat.reduceEqDiff, reduceIte, reduceCtorEq, Int.reduceBEq, Int.reduceBNe, Int.reduceLT, Int.reduceLE, Int.reduceGT, Int.reduceGE, Int.reduceEq, Int.reduceAdd, Int.reduceSub, Int.reduceMul, Nat.reduceMul, Nat.reduceSub, Nat.reduceLeDiff, k39]; rfl, ?_⟩
  exact h _ _ _ _ _ (hl.weaken (Nat.le_succ _)) (hf.trans hf2 (fun _ _ h => h) fun _ _ h => h)
/-- (*Set).Copy. -/
theorem copy_ok (C : Codes tab) {S : Nat → Prop} {p : V} {width : Nat} {rows : List (List Int)} {aw : AW} {K : V → AW → Prop} (hs : SetOf S aw p width rows) (hn : rows.length ≤ 1000000)
    (h : ∀ q w, SetOf (fun b => aw.next ≤ b ∧ b < w.next) w q width rows → Frm (fun _ => False) aw w → K q w) : WF tab 38 [p] aw K := by
  obtain ⟨bp, lv, cs, S0, T, rfl, hs⟩ := hs
  refine WF_of C.c38 rfl ?_
  have w4 := hs.w4
  have e0 := hs.load0
  have c1 : width ≤ 70368744177664 := by omega
  have c2 : width * 8 ≤ 70368744177664 := by omega
  refine WS_run 1000 (by simp only [go_sem, Nat.reduceAdd, Nat.reduceLT, Nat.reduceEqDiff, reduceIte, reduceCtorEq, Int.reduceBEq, Int.reduceBNe, Int.reduceLT, Int.reduceLE, Int.reduceGT, Int.reduceGE, Int.reduceEq, Int.reduceAdd, Int.reduceSub, Int.reduceMul, Nat.reduceMul, Nat.reduceSub, Nat.reduceLeDiff, k38, eqV]; rfl) ?_
  refine WS_drawn ?_
  refine WDs_run 100 (by simp only [go_sem, Nat.reduceAdd, Nat.reduceLT, Nat.reduceEqDiff, reduceIte, reduceCtorEq, Int.reduceBEq, Int.reduceBNe, Int.reduceLT, Int.reduceLE, Int.reduceGT, Int.reduceGE, Int.reduceEq, Int.reduceAdd, Int.reduceSub, Int.reduceMul, Nat.reduceMul, Nat.reduceSub, Nat.reduceLeDiff, e0, c1, c2, zeros_row]; rfl) ?_
  refine WDs_call (by simp only [go_sem, Nat.reduceAdd, Nat.reduceLT, Nat.reduceEqDiff, reduceIte, reduceCtorEq, Int.reduceBEq, Int.reduceBNe, Int.reduceLT, Int.reduceLE, Int.reduceGT, Int.reduceGE, Int.reduceEq, Int.reduceAdd, Int.reduceSub, Int.reduceMul, Nat.reduceMul, Nat.reduceSub, Nat.reduceLeDiff]) (by simp only [go_sem, Nat.reduceAdd, Nat.reduceLT, Nat.reduceEqDiff, reduceIte, reduceCtorEq, Int.reduceBEq, Int.reduceBNe, Int.reduceLT, Int.reduceLE, Int.reduceGT, Int.reduceGE, Int.reduceEq, Int.reduceAdd, Int.reduceSub, Int.reduceMul, Nat.reduceMul, Nat.reduceSub, Nat.reduceLeDiff]; rfl) ?_
  have hf : Frm (fun _ => False) aw (aw.fresh (rowC (List.replicate width 0))) := Frm.new _ _
  have hs1 := hs.frm hf fun _ _ h => h
  have e1 := hs1.load0
  refine match_ok C (pat := List.replicate width 0) ⟨bp, lv, cs, S0, T, rfl, hs1⟩ (.blk (T := fun b => b = aw.next) rfl (Nat.lt_succ_self _) AE.T.get_put_same (by simp)) hn (by simp; omega) (fun h => absurd (by simp) h) ?_
  intro _ v w cs' S1 T1 hl hf2
  rw [filter_zero] at hl
  have hs2 := hs1.frm hf2 fun _ _ h => h
  have e2 := hs2.load0
  obtain ⟨hb, hv, hS1, hT1⟩ := hl
  have hvc : v.cells = [v] := by rcases hb.inv with ⟨rfl, _⟩ | ⟨b, rfl, _⟩ <;> rfl
  refine WDs_run 100 (by simp only [go_sem, Nat.reduceAdd, Nat.reduceLT, Nat.reduceEqDiff, reduceIte, reduceCtorEq, Int.reduceBEq, Int.reduceBNe, Int.reduceLT, Int.reduceLE, Int.reduceGT, Int.reduceGE, Int.reduceEq, Int.reduceAdd, Int.reduceSub, Int.reduceMul, Nat.reduceMul, Nat.reduceSub, Nat.reduceLeDiff, evParts, fillV, over, hvc, List.length_cons, List.length_nil]; rfl) ?_
  refine WDs_nil ⟨(show chkAll _ _ [(3, 9), (3, 10)] from by simp only [go_sem, Nat.reduceAdd, Nat.reduceLT, Nat.reduceEqDiff, reduceIte, reduceCtorEq, Int.reduceBEq, Int.reduceBNe, Int.reduceLT, Int.reduceLE, Int.reduceGT, Int.reduceGE, Int.reduceEq, Int.reduceAdd, Int.reduceSub, Int.reduceMul, Nat.reduceMul, Nat.reduceSub, Nat.reduceLeDiff, chkAll, chk, List.reverse_cons, List.reverse_nil, mkStp_fe, mkStp_v, mkStp_0, mkStp_1, List.getElem?_nil, false_or, or_true, or_false, exists_eq', Option.some.injEq, Prod.mk.injEq, Bool.true_eq_false, Bool.false_eq_true, and_true, true_and, implies_true,  e0, e1, e2]), ?_⟩
  refine WS_run 1000 (by simp only [go_sem, Nat.reduceAdd, Nat.reduceLT, Nat.reduceEqDiff, reduceIte, reduceCtorEq, Int.reduceBEq, Int.reduceBNe, Int.reduceLT, Int.reduceLE, Int.reduceGT, Int.reduceGE, Int.reduceEq, Int.reduceAdd, Int.reduceSub, Int.reduceMul, Nat.reduceMul, Nat.reduceSub, Nat.reduceLeDiff]; rfl) ?_
  refine WS_ret ⟨_, by simp only [go_sem, Nat.reduceAdd, Nat.reduceLT, Nat.reduceEqDiff, reduceIte, reduceCtorEq, Int.reduceBEq, Int.reduceBNe, Int.reduceLT, Int.reduceLE, Int.reduceGT, Int.reduceGE, Int.reduceEq, Int.reduceAdd, Int.reduceSub, Int.reduceMul, Nat.reduceMul, Nat.reduceSub, Nat.reduceLeDiff, k38]; rfl, ?_⟩
  have hf3 : Frm (fun _ => False) w (w.fresh [V.int .i64 (Int.ofNat width), v]) := Frm.new _ _
  have hnx : (aw.fresh (rowC (List.replicate width 0))).next = aw.next + 1 := rfl
  have hn2 := hf2.next
  suffices hset : SetOf (fun b => aw.next ≤ b ∧ b < (w.fresh [V.int .i64 (Int.ofNat width), v]).next) (w.fresh [V.int .i64 (Int.ofNat width), v]) (.ptr w.next 0) width rows from
    h _ _ hset ((hf.trans hf2 (fun _ _ h => h) fun _ _ h => h).trans hf3 (fun _ _ h => h) fun _ _ h => h)
  refine ⟨w.next, v, cs', S1, T1, rfl, ⟨⟨by omega, Nat.lt_succ_self _⟩, Nat.lt_succ_self _, AE.T.get_put_same, fun x hx => ?_, fun x hx => ?_, fun x hx => hx.2, hb.frm hf3 fun _ _ h => h, hv.frm hf3 fun _ _ h => h, hs.rise, hs.wid, hs.w4⟩⟩
  · have := hS1 x hx
    exact ⟨⟨by omega, by show x < w.next + 1; omega⟩, by omega, by show x < w.next + 1; omega⟩
  · have := hT1 x hx
    exact ⟨⟨by omega, by show x < w.next + 1; omega⟩, by omega, fun h => (hS1 x h).2.2 hx, by show x < w.next + 1; omega⟩
def LessI (av bv : V) (a b : List Int) (aw : AW) (q : Nat) (f : Fr) (w : AW) : Prop :=
  ∃ i, f.get 0 = some av ∧ f.get 1 = some bv ∧ f.get 5 = some (.int .i64 (Int.ofNat i)) ∧ w = aw ∧ (cmpL a b < 0 ↔ cmpL (a.drop i) (b.drop i) < 0) ∧ i ≤ a.length ∧ q = a.length - i
/-- less, of rows of one width. -/
theorem less_ok (C : Codes tab) {T U : Nat → Prop} {av bv : V} {a b : List Int} {aw : AW} {K : V → AW → Prop} (ha : RowV T aw av a) (hb : RowV U aw bv b) (hl : a.length = b.length) (hla : a.length ≤ 1000) (h : K (.bool (decide (cmpL a b < 0))) aw) : WF tab 41 [av, bv] aw K := by
  refine WF_of C.c41 rfl ?_
  rcases ha.inv with ⟨rfl, rfl⟩ | ⟨b1, c1, rfl, _, _, hx1⟩
  · have : b = [] := List.length_eq_zero_iff.1 (by simpa using hl.symm)
    subst this
    refine WS_run 1000 (by simp only [go_sem, Nat.reduceAdd, Nat.reduceLT, Nat.reduceEqDiff, reduceIte, reduceCtorEq, Int.reduceBEq, Int.reduceBNe, Int.reduceLT, Int.reduceLE, Int.reduceGT, Int.reduceGE, Int.reduceEq, Int.reduceAdd, Int.reduceSub, Int.reduceMul, Nat.reduceMul, Nat.reduceSub, Nat.reduceLeDiff, k41]; rfl) ?_
    refine WS_loop1 ?_
    refine WS_run 1000 (by simp only [go_sem, Nat.reduceAdd, Nat.reduceLT, Nat.reduceEqDiff, reduceIte, reduceCtorEq, Int.reduceBEq, Int.reduceBNe, Int.reduceLT, Int.reduceLE, Int.reduceGT, Int.reduceGE, Int.reduceEq, Int.reduceAdd, Int.reduceSub, Int.reduceMul, Nat.reduceMul, Nat.reduceSub, Nat.reduceLeDiff, k41_2]; rfl) ?_
    refine WS_ret ⟨_, by simp only [go_sem, Nat.reduceAdd, Nat.reduceLT, Nat.reduceEqDiff, reduceIte, reduceCtorEq, Int.reduceBEq, Int.reduceBNe, Int.reduceLT, Int.reduceLE, Int.reduceGT, Int.reduceGE, Int.reduceEq, Int.reduceAdd, Int.reduceSub, Int.reduceMul, Nat.reduceMul, Nat.reduceSub, Nat.reduceLeDiff, k41]; rfl, ?_⟩
    exact h
  rcases hb.inv with ⟨rfl, rfl⟩ | ⟨b2, c2, rfl, _, _, hx2⟩
  · have : a = [] := List.length_eq_zero_iff.1 (by simpa using hl)
    subst this
    refine WS_run 1000 (by simp only [go_sem, Nat.reduceAdd, Nat.reduceLT, Nat.reduceEqDiff, reduceIte, reduceCtorEq, Int.reduceBEq, Int.reduceBNe, Int.reduceLT, Int.reduceLE, Int.reduceGT, Int.reduceGE, Int.reduceEq, Int.reduceAdd, Int.reduceSub, Int.reduceMul, Nat.reduceMul, Nat.reduceSub, Nat.reduceLeDiff, k41]; rfl) ?_
    refine WS_loop1 ?_
    refine WS_run 1000 (by simp only [go_sem, Nat.reduceAdd, Nat.reduceLT, Nat.reduceEqDiff, reduceIte, reduceCtorEq, Int.reduceBEq, Int.reduceBNe, Int.reduceLT, Int.reduceLE, Int.reduceGT, Int.reduceGE, Int.reduceEq, Int.reduceAdd, Int.reduceSub, Int.reduceMul, Nat.reduceMul, Nat.reduceSub, Nat.reduceLeDiff, k41_2, List.length_nil]; rfl) ?_
    refine WS_ret ⟨_, by simp only [go_sem, Nat.reduceAdd, Nat.reduceLT, Nat.reduceEqDiff, reduceIte, reduceCtorEq, Int.reduceBEq, Int.reduceBNe, Int.reduceLT, Int.reduceLE, Int.reduceGT, Int.reduceGE, Int.reduceEq, Int.reduceAdd, Int.reduceSub, Int.reduceMul, Nat.reduceMul, Nat.reduceSub, Nat.reduceLeDiff, k41]; rfl, ?_⟩
    exact h
  refine WS_run 1000 (by simp only [go_sem, Nat.reduceAdd, Nat.reduceLT, Nat.reduceEqDiff, reduceIte, reduceCtorEq, Int.reduceBEq, Int.reduceBNe, Int.reduceLT, Int.reduceLE, Int.reduceGT, Int.reduceGE, Int.reduceEq, Int.reduceAdd, Int.reduceSub, Int.reduceMul, Nat.reduceMul, Nat.reduceSub, Nat.reduceLeDiff, k41]; rfl) ?_
  refine WS_loop (LessI _ _ a b aw) ?_ a.length ⟨0, (by simp only [go_sem, Nat.reduceAdd, Nat.reduceLT, Nat.reduceEqDiff, reduceIte, reduceCtorEq, Int.reduceBEq, Int.reduceBNe, Int.reduceLT, Int.reduceLE, Int.reduceGT, Int.reduceGE, Int.reduceEq, Int.reduceAdd, Int.reduceSub, Int.reduceMul, Nat.reduceMul, Nat.reduceSub, Nat.reduceLeDiff] <;> rfl), (by simp only [go_sem, Nat.reduceAdd, Nat.reduceLT, Nat.reduceEqDiff, reduceIte, reduceCtorEq, Int.reduceBEq, Int.reduceBNe, Int.reduceLT, Int.reduceLE, Int.reduceGT, Int.reduceGE, Int.reduceEq, Int.reduceAdd, Int.reduceSub, Int.reduceMul, Nat.reduceMul, Nat.reduceSub, Nat.reduceLeDiff] <;> rfl), (by simp only [go_sem, Nat.reduceAdd, Nat.reduceLT, Nat.reduceEqDiff, reduceIte, reduceCtorEq, Int.reduceBEq, Int.reduceBNe, Int.reduceLT, Int.reduceLE, Int.reduceGT, Int.reduceGE, Int.reduceEq, Int.reduceAdd, Int.reduceSub, Int.reduceMul, Nat.reduceMul, Nat.reduceSub, Nat.reduceLeDiff] <;> rfl), rfl, by simp, by omega, by omega⟩
  rintro q f w ⟨i, f0, f1, f5, rfl, hc, hi, rfl⟩ ih
  by_cases hlt : i < a.length
  · have hlb : i < b.length := by omega
    have g1 : a[i]? = some a[i] := List.getElem?_eq_getElem hlt
    have g2 : b[i]? = some b[i] := List.getElem?_eq_getElem hlb
    have e1 := row_load hx1 g1
    have e2 := row_load hx2 g2
    have hwr : IntKind.wrap .i64 (Int.ofNat i + 1) = Int.ofNat (i + 1) := wrap_succ (by omega)
    rw [List.drop_eq_getElem_cons hlt, List.drop_eq_getElem_cons hlb, cmpL_cons] at hc
    refine WS_run 1000 (by simp only [go_sem, Nat.reduceAdd, Nat.reduceLT, Nat.reduceEqDiff, reduceIte, reduceCtorEq, Int.reduceBEq, Int.reduceBNe, Int.reduceLT, Int.reduceLE, Int.reduceGT, Int.reduceGE, Int.reduceEq, Int.reduceAdd, Int.reduceSub, Int.reduceMul, Nat.reduceMul, Nat.reduceSub, Nat.reduceLeDiff, k41_2, k41_1, f0, f1, f5, hlt, hlb]; rfl) ?_
    refine WS_drawnQ rfl (by simp only [go_sem, Nat.reduceAdd, Nat.reduceLT, Nat.reduceEqDiff, reduceIte, reduceCtorEq, Int.reduceBEq, Int.reduceBNe, Int.reduceLT, Int.reduceLE, Int.reduceGT, Int.reduceGE, Int.reduceEq, Int.reduceAdd, Int.reduceSub, Int.reduceMul, Nat.reduceMul, Nat.reduceSub, Nat.reduceLeDiff, f0, f1, f5, hlt, hlb, e1, e2]; rfl) ?_
    by_cases he : a[i] = b[i]
    · have e3 : (a[i] != b[i]) = false := by simp [he]
      refine WS_run 1000 (by simp only [go_sem, Nat.reduceAdd, Nat.reduceLT, Nat.reduceEqDiff, reduceIte, reduceCtorEq, Int.reduceBEq, Int.reduceBNe, Int.reduceLT, Int.reduceLE, Int.reduceGT, Int.reduceGE, Int.reduceEq, Int.reduceAdd, Int.reduceSub, Int.reduceMul, Nat.reduceMul, Nat.reduceSub, Nat.reduceLeDiff, e3, f0, f1, f5, hwr]; rfl) ?_
      refine ih (a.length - (i + 1)) _ _ (by omega) ⟨i + 1, (by simp only [go_sem, Nat.reduceAdd, Nat.reduceLT, Nat.reduceEqDiff, reduceIte, reduceCtorEq, Int.reduceBEq, Int.reduceBNe, Int.reduceLT, Int.reduceLE, Int.reduceGT, Int.reduceGE, Int.reduceEq, Int.reduceAdd, Int.reduceSub, Int.reduceMul, Nat.reduceMul, Nat.reduceSub, Nat.reduceLeDiff, f0] <;> rfl), (by simp only [go_sem, Nat.reduceAdd, Nat.reduceLT, Nat.reduceEqDiff, reduceIte, reduceCtorEq, Int.reduceBEq, Int.reduceBNe, Int.reduceLT, Int.reduceLE, Int.reduceGT, Int.reduceGE, Int.reduceEq, Int.reduceAdd, Int.reduceSub, Int.reduceMul, Nat.reduceMul, Nat.reduceSub, Nat.reduceLeDiff, f1] <;> rfl), (by simp only [go_sem, Nat.reduceAdd, Nat.reduceLT, Nat.reduceEqDiff, reduceIte, reduceCtorEq, Int.reduceBEq, Int.reduceBNe, Int.reduceLT, Int.reduceLE, Int.reduceGT, Int.reduceGE, Int.reduceEq, Int.reduceAdd, Int.reduceSub, Int.reduceMul, Nat.reduceMul, Nat.reduceSub, Nat.reduceLeDiff] <;> rfl), rfl, ?_, by omega, rfl⟩
      rw [hc]
      constructor
      · rintro (h | h)
        · omega
        · exact h.2
      · exact fun h => .inr ⟨he, h⟩
    · have e3 : (a[i] != b[i]) = true := by simp [he]
      have hd : decide (a[i] < b[i]) = decide (cmpL a b < 0) := by
        congr 1
        rw [hc]
        apply propext
        constructor
        · exact .inl
        · rintro (h | h)
          · exact h
          · exact absurd h.1 he
      refine WS_run 1000 (by simp only [go_sem, Nat.reduceAdd, Nat.reduceLT, Nat.reduceEqDiff, reduceIte, reduceCtorEq, Int.reduceBEq, Int.reduceBNe, Int.reduceLT, Int.reduceLE, Int.reduceGT, Int.reduceGE, Int.reduceEq, Int.reduceAdd, Int.reduceSub, Int.reduceMul, Nat.reduceMul, Nat.reduceSub, Nat.reduceLeDiff, k41_0, e3, f0, f1, f5, hlt, hlb]; rfl) ?_
      refine WS_drawnQ rfl (by simp only [go_sem, Nat.reduceAdd, Nat.reduceLT, Nat.reduceEqDiff, reduceIte, reduceCtorEq, Int.reduceBEq, Int.reduceBNe, Int.reduceLT, Int.reduceLE, Int.reduceGT, Int.reduceGE, Int.reduceEq, Int.reduceAdd, Int.reduceSub, Int.reduceMul, Nat.reduceMul, Nat.reduceSub, Nat.reduceLeDiff, f0, f1, f5, hlt, hlb, e1, e2, hd]; rfl) ?_
      refine WS_run 1000 (by simp only [go_sem, Nat.reduceAdd, Nat.reduceLT, Nat.reduceEqDiff, reduceIte, reduceCtorEq, Int.reduceBEq, Int.reduceBNe, Int.reduceLT, Int.reduceLE, Int.reduceGT, Int.reduceGE, Int.reduceEq, Int.reduceAdd, Int.reduceSub, Int.reduceMul, Nat.reduceMul, Nat.reduceSub, Nat.reduceLeDiff]; rfl) ?_
      refine WS_ret ⟨_, by simp only [go_sem, Nat.reduceAdd, Nat.reduceLT, Nat.reduceEqDiff, reduceIte, reduceCtorEq, Int.reduceBEq, Int.reduceBNe, Int.reduceLT, Int.reduceLE, Int.reduceGT, Int.reduceGE, Int.reduceEq, Int.reduceAdd, Int.reduceSub, Int.reduceMul, Nat.reduceMul, Nat.reduceSub, Nat.reduceLeDiff, k41]; rfl, ?_⟩
      exact h
  · rw [List.drop_eq_nil_of_le (by omega : a.length ≤ i), List.drop_eq_nil_of_le (by omega : b.length ≤ i)] at hc
    have : decide (cmpL a b < 0) = false := by rw [decide_eq_false_iff_not, hc]; simp [cmpL]
    rw [this] at h
    refine WS_run 1000 (by simp only [go_sem, Nat.reduceAdd, Nat.reduceLT, Nat.reduceEqDiff, reduceIte, reduceCtorEq, Int.reduceBEq, Int.reduceBNe, Int.reduceLT, Int.reduceLE, Int.reduceGT, Int.reduceGE, Int.reduceEq, Int.reduceAdd, Int.reduceSub, Int.reduceMul, Nat.reduceMul, Nat.reduceSub, Nat.reduceLeDiff, k41_2, f0, f1, f5, hlt]; rfl) ?_
    refine WS_ret ⟨_, by simp only [go_sem, Nat.reduceAdd, Nat.reduceLT, Nat.reduceEqDiff, reduceIte, reduceCtorEq, Int.reduceBEq, Int.reduceBNe, Int.reduceLT, Int.reduceLE, Int.reduceGT, Int.reduceGE, Int.reduceEq, Int.reduceAdd, Int.reduceSub, Int.reduceMul, Nat.reduceMul, Nat.reduceSub, Nat.reduceLeDiff, k41]; rfl, ?_⟩
    exact h
end Go.Proofs.Ytjidefnbancmfaa
