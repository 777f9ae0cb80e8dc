/- RelationAll: what is known at each operation; a row of one's own; where it stands. -/
import Derived.Test.YtjidefnbancmfaaPRel10
import Derived.Test.YtjidefnbancmfaaAgW
set_option linter.unusedVariables false
set_option linter.unusedSimpArgs false
namespace Go.AE
theorem Own.appendAny {N : Nat} {w : AW} {v : V} {n k bytes : Nat} {cs news : List V} (h : Own N w v 1 n cs) (hNw : N ≤ w.next) (hl : news.length = k) (h1 : allOne news = true) (hb : (n + k) * bytes ≤ 70368744177664) (hb' : n + k ≤ 70368744177664) :
    ∃ v' w', w.appendV 1 bytes v k news = some (v', w') ∧ Own N w' v' 1 (n + k) (cs ++ news) ∧ Ext N w w' := by
  cases k with
  | zero =>
    have : news = [] := List.length_eq_zero_iff.1 hl
    subst this
    rw [List.append_nil, Nat.add_zero]
    refine ⟨v, w, ?_, h, Ext.refl' hNw⟩
    rcases h.inv with ⟨rfl, _⟩ | ⟨b, rfl, _⟩ <;> rfl
  | succ k => exact h.append hNw (by omega) (by omega) (by omega) h1 hb hb'
theorem Own.buf {N : Nat} {w : AW} {v : V} {esz n : Nat} {cs : List V} (h : Own N w v esz n cs) : Buf (fun x => N ≤ x ∧ x < w.next) w v esz n cs := by
  cases h with
  | nil => exact .nil
  | blk hN hb hx hl he hn hs =>
    refine .blk (r := 0) (rest := []) ⟨hN, hb⟩ hb (by rw [List.append_nil]; exact hx) hl (by simp) he (by omega) ?_
    rcases hs with rfl | rfl | ⟨f, F, rfl, h1, h2, h3⟩
    · exact .inl rfl
    · exact .inr (.inl rfl)
    · exact .inr (.inr ⟨f, F, rfl, ⟨h1, h2⟩, h2, h3⟩)
end Go.AE
namespace Go.Proofs.Ytjidefnbancmfaa
open Go.AE
variable {tab : Tab}
structure AllW (aw w : AW) (bs : Nat) (mv : V) (width : Nat) (M rows : List (List Int)) (ms : List V) (S S2 T2 : Nat → Prop) : Prop where
  set : SetOf S w (.ptr bs 0) width rows
  mb : Buf S2 w mv 1 M.length ms
  mr : RowsV T2 w ms M
  nod : M.Nodup
  wid : ∀ x ∈ M, x.length = width
  same : ∀ y, y ∈ rows ↔ y ∈ M
  d1 : ∀ x, S x → aw.next ≤ x ∧ x < w.next
  d2 : ∀ x, S2 x → aw.next ≤ x ∧ x < w.next ∧ ¬ S x ∧ ¬ T2 x
  d3 : ∀ x, T2 x → aw.next ≤ x ∧ x < w.next ∧ ¬ S x
  ext : Ext aw.next aw w
  w4 : width ≤ 4
theorem AllW.frm {aw w w' : AW} {bs : Nat} {mv : V} {width : Nat} {M rows : List (List Int)} {ms : List V} {S S2 T2 R : Nat → Prop} (h : AllW aw w bs mv width M rows ms S S2 T2) (hf : Frm R w w') (hR : ∀ x, R x → aw.next ≤ x ∧ ¬ S x ∧ ¬ S2 x ∧ ¬ T2 x) : AllW aw w' bs mv width M rows ms S S2 T2 where
  set := h.set.frm hf fun x hx hr => (hR x hr).2.1 hx
  mb := h.mb.frm hf fun x hx hr => (hR x hr).2.2.1 hx
  mr := h.mr.frm hf fun x hx hr => (hR x hr).2.2.2 hx
  nod := h.nod
  wid := h.wid
  same := h.same
  d1 x hx := ⟨(h.d1 x hx).1, Nat.lt_of_lt_of_le (h.d1 x hx).2 hf.next⟩
  d2 x hx := ⟨(h.d2 x hx).1, Nat.lt_of_lt_of_le (h.d2 x hx).2.1 hf.next, (h.d2 x hx).2.2⟩
  d3 x hx := ⟨(h.d3 x hx).1, Nat.lt_of_lt_of_le (h.d3 x hx).2.1 hf.next, (h.d3 x hx).2.2⟩
  ext := h.ext.trans (hf.ext h.ext.le' fun x hr => (hR x hr).1)
  w4 := h.w4
/-- what is new is none of it. -/
theorem AllW.fresh {aw w : AW} {bs : Nat} {mv : V} {width : Nat} {M rows : List (List Int)} {ms : List V} {S S2 T2 : Nat → Prop} (h : AllW aw w bs mv width M rows ms S S2 T2) {x : Nat} (hx : w.next ≤ x) : aw.next ≤ x ∧ ¬ S x ∧ ¬ S2 x ∧ ¬ T2 x :=
  ⟨Nat.le_trans h.ext.le' hx, fun hs => by have := (h.d1 x hs).2; omega, fun hs => by have := (h.d2 x hs).2.1; omega, fun hs => by have := (h.d3 x hs).2.1; omega⟩
theorem AllW.rise {aw w : AW} {bs : Nat} {mv : V} {width : Nat} {M rows : List (List Int)} {ms : List V} {S S2 T2 : Nat → Prop} (h : AllW aw w bs mv width M rows ms S S2 T2) : Rise rows ∧ ∀ x ∈ rows, x.length = width := by
  obtain ⟨bp, lv, cs, S0, T, he, hs⟩ := h.set
  exact ⟨hs.rise, hs.wid⟩
theorem rise_nodup' {rows : List (List Int)} (h : Rise rows) : rows.Nodup := h.imp fun hab e => by subst e; exact cmpL_self hab
theorem AllW.len {aw w : AW} {bs : Nat} {mv : V} {width : Nat} {M rows : List (List Int)} {ms : List V} {S S2 T2 : Nat → Prop} (h : AllW aw w bs mv width M rows ms S S2 T2) : rows.length = M.length :=
  ((List.perm_ext_iff_of_nodup (rise_nodup' h.rise.1) h.nod).2 h.same).length_eq
/-- where a row stands: the last place. -/
def At (M : List (List Int)) (r : List Int) (a : Int) : Prop := (r ∉ M ∧ a = -1) ∨ ∃ k, M[k]? = some r ∧ a = Int.ofNat k
def FndI (bs : Nat) (width i : Nat) (opsV mv rv : V) (M : List (List Int)) (r : List Int) (w0 : AW) (q : Nat) (f : Fr) (w : AW) : Prop :=
  ∃ k a, f.get 0 = some (.int .i64 (Int.ofNat width)) ∧ f.get 1 = some opsV ∧ f.get 6 = some (.ptr bs 0) ∧ f.get 7 = some mv ∧ f.get 8 = some (.int .i64 (Int.ofNat i)) ∧ f.get 9 = some rv ∧ f.get 10 = some (.int .i64 a) ∧ f.get 11 = some (.int .i64 (Int.ofNat k)) ∧
    w = w0 ∧ At (M.take k) r a ∧ k ≤ M.length ∧ q = M.length - k
theorem all_find (C : Codes tab) {S2 T2 U : Nat → Prop} {bs width i : Nat} {opsV mv rv : V} {M : List (List Int)} {ms : List V} {r : List Int} {w : AW} {fr : Fr} {Q : Fr → AW → Prop} {s : List SI} (hb : Buf S2 w mv 1 M.length ms) (hm : RowsV T2 w ms M) (hr : RowV U w rv r) (hM : M.length ≤ 1000) (hw : ∀ x ∈ M, x.length ≤ 1000) (hrl : r.length ≤ 1000) (hnd : M.Nodup)
    (h0 : FndI bs width i opsV mv rv M r w M.length fr w) (h : ∀ f, FndI bs width i opsV mv rv M r w 0 f w → WS tab s f w Q) : WS tab (.code (.loop k10_1) :: .endB 2 :: s) fr w Q := by
  refine WS_loop (FndI bs width i opsV mv rv M r w) ?_ M.length h0
  clear h0 fr
  rintro q f w1 ⟨k, a, f0, f1, f6, f7, f8, f9, f10, f11, rfl, hat, hk, rfl⟩ ih
  by_cases hlt : k < M.length
  · rcases hb.inv with ⟨_, h0, _⟩ | ⟨b, rfl, _, _⟩
    · omega
    have g1 : M[k]? = some M[k] := List.getElem?_eq_getElem hlt
    obtain ⟨v, c1, r1⟩ := hm.at g1
    have l1 := hb.load1 c1
    have hwr : IntKind.wrap .i64 (Int.ofNat k + 1) = Int.ofNat (k + 1) := wrap_succ (by omega)
    have ht : M.take (k + 1) = M.take k ++ [M[k]] := by rw [List.take_add_one, g1]; rfl
    refine WS_run 1000 (by simp only [go_sem, Nat.reduceAdd, Nat.reduceLT, Nat.reduceEqDiff, reduceIte, reduceCtorEq, Int.reduceBEq, Int.reduceBNe, Int.reduceLT, Int.reduceLE, Int.reduceGT, Int.reduceGE, Int.reduceEq, Int.reduceAdd, Int.reduceSub, Int.reduceMul, Nat.reduceMul, Nat.reduceSub, Nat.reduceLeDiff, k10_1, k10_0, f0, f1, f6, f7, f8, f9, f10, f11, hlt, l1]; rfl) ?_
    refine WS_call (by simp only [go_sem, Nat.reduceAdd, Nat.reduceLT, Nat.reduceEqDiff, reduceIte, reduceCtorEq, Int.reduceBEq, Int.reduceBNe, Int.reduceLT, Int.reduceLE, Int.reduceGT, Int.reduceGE, Int.reduceEq, Int.reduceAdd, Int.reduceSub, Int.reduceMul, Nat.reduceMul, Nat.reduceSub, Nat.reduceLeDiff]) (by simp only [go_sem, Nat.reduceAdd, Nat.reduceLT, Nat.reduceEqDiff, reduceIte, reduceCtorEq, Int.reduceBEq, Int.reduceBNe, Int.reduceLT, Int.reduceLE, Int.reduceGT, Int.reduceGE, Int.reduceEq, Int.reduceAdd, Int.reduceSub, Int.reduceMul, Nat.reduceMul, Nat.reduceSub, Nat.reduceLeDiff]; rfl) ?_
    refine eq_ok C r1 hr (hw _ (List.mem_of_getElem? g1)) hrl ?_
    by_cases he : M[k] = r
    · refine WS_run 1000 (by simp only [go_sem, Nat.reduceAdd, Nat.reduceLT, Nat.reduceEqDiff, reduceIte, reduceCtorEq, Int.reduceBEq, Int.reduceBNe, Int.reduceLT, Int.reduceLE, Int.reduceGT, Int.reduceGE, Int.reduceEq, Int.reduceAdd, Int.reduceSub, Int.reduceMul, Nat.reduceMul, Nat.reduceSub, Nat.reduceLeDiff, he, f0, f1, f6, f7, f8, f9, f10, f11, hwr]; rfl) ?_
      refine ih (M.length - (k + 1)) _ _ (by omega) ⟨k + 1, Int.ofNat k, (by simp only [go_sem, Nat.reduceAdd, Nat.reduceLT, Nat.reduceEqDiff, reduceIte, reduceCtorEq, Int.reduceBEq, Int.reduceBNe, Int.reduceLT, Int.reduceLE, Int.reduceGT, Int.reduceGE, Int.reduceEq, Int.reduceAdd, Int.reduceSub, Int.reduceMul, Nat.reduceMul, Nat.reduceSub, Nat.reduceLeDiff, f0] <;> rfl), (by simp only [go_sem, Nat.reduceAdd, Nat.reduceLT, Nat.reduceEqDiff, reduceIte, reduceCtorEq, Int.reduceBEq, Int.reduceBNe, Int.reduceLT, Int.reduceLE, Int.reduceGT, Int.reduceGE, Int.reduceEq, Int.reduceAdd, Int.reduceSub, Int.reduceMul, Nat.reduceMul, Nat.reduceSub, Nat.reduceLeDiff, f1] <;> rfl), (by simp only [go_sem, Nat.reduceAdd, Nat.reduceLT, Nat.reduceEqDiff, reduceIte, reduceCtorEq, Int.reduceBEq, Int.reduceBNe, Int.reduceLT, Int.reduceLE, Int.reduceGT, Int.reduceGE, Int.reduceEq, Int.reduceAdd, Int.reduceSub, Int.reduceMul, Nat.reduceMul, Nat.reduceSub, Nat.reduceLeDiff, f6] <;> rfl), (by simp only [go_sem, Nat.reduceAdd, Nat.reduceLT, Nat.reduceEqDiff, reduceIte, reduceCtorEq, Int.reduceBEq, Int.reduceBNe, Int.reduceLT, Int.reduceLE, Int.reduceGT, Int.reduceGE, Int.reduceEq, Int.reduceAdd, Int.reduceSub, Int.reduceMul, Nat.reduceMul, Nat.reduceSub, Nat.reduceLeDiff, f7] <;> rfl), (by simp only [go_sem, Nat.reduceAdd, Nat.reduceLT, Nat.reduceEqDiff, reduceIte, reduceCtorEq, Int.reduceBEq, Int.reduceBNe, Int.reduceLT, Int.reduceLE, Int.reduceGT, Int.reduceGE, Int.reduceEq, Int.reduceAdd, Int.reduceSub, Int.reduceMul, Nat.reduceMul, Nat.reduceSub, Nat.reduceLeDiff, f8] <;> rfl), (by simp only [go_sem, Nat.reduceAdd, Nat.reduceLT, Nat.reduceEqDiff, reduceIte, reduceCtorEq, Int.reduceBEq, Int.reduceBNe, Int.reduceLT, Int.reduceLE, Int.reduceGT, Int.reduceGE, Int.reduceEq, Int.reduceAdd, Int.reduceSub, Int.reduceMul, Nat.reduceMul, Nat.reduceSub, Nat.reduceLeDiff, f9] <;> rfl), (by simp only [go_sem, Nat.reduceAdd, Nat.reduceLT, Nat.reduceEqDiff, reduceIte, reduceCtorEq, Int.reduceBEq, Int.reduceBNe, Int.reduceLT, Int.reduceLE, Int.reduceGT, Int.reduceGE, Int.reduceEq, Int.reduceAdd, Int.reduceSub, Int.reduceMul, Nat.reduceMul, Nat.reduceSub, Nat.reduceLeDiff] <;> rfl), (by simp only [go_sem, Nat.reduceAdd, Nat.reduceLT, Nat.reduceEqDiff, reduceIte, reduceCtorEq, Int.reduceBEq, Int.reduceBNe, Int.reduceLT, Int.reduceLE, Int.reduceGT, Int.reduceGE, Int.reduceEq, Int.reduceAdd, Int.reduceSub, Int.reduceMul, Nat.reduceMul, Nat.reduceSub, Nat.reduceLeDiff] <;> rfl), rfl, .inr ⟨k, ?_, rfl⟩, by omega, rfl⟩
      rw [List.getElem?_take_of_lt (by omega), g1, he]
    · refine WS_run 1000 (by simp only [go_sem, Nat.reduceAdd, Nat.reduceLT, Nat.reduceEqDiff, reduceIte, reduceCtorEq, Int.reduceBEq, Int.reduceBNe, Int.reduceLT, Int.reduceLE, Int.reduceGT, Int.reduceGE, Int.reduceEq, Int.reduceAdd, Int.reduceSub, Int.reduceMul, Nat.reduceMul, Nat.reduceSub, Nat.reduceLeDiff, he, f0, f1, f6, f7, f8, f9, f10, f11, hwr]; rfl) ?_
      refine ih (M.length - (k + 1)) _ _ (by omega) ⟨k + 1, a, (by simp only [go_sem, Nat.reduceAdd, Nat.reduceLT, Nat.reduceEqDiff, reduceIte, reduceCtorEq, Int.reduceBEq, Int.reduceBNe, Int.reduceLT, Int.reduceLE, Int.reduceGT, Int.reduceGE, Int.reduceEq, Int.reduceAdd, Int.reduceSub, Int.reduceMul, Nat.reduceMul, Nat.reduceSub, Nat.reduceLeDiff, f0] <;> rfl), (by simp only [go_sem, Nat.reduceAdd, Nat.reduceLT, Nat.reduceEqDiff, reduceIte, reduceCtorEq, Int.reduceBEq, Int.reduceBNe, Int.reduceLT, Int.reduceLE, Int.reduceGT, Int.reduceGE, Int.reduceEq, Int.reduceAdd, Int.reduceSub, Int.reduceMul, Nat.reduceMul, Nat.reduceSub, Nat.reduceLeDiff, f1] <;> rfl), (by simp only [go_sem, Nat.reduceAdd, Nat.reduceLT, Nat.reduceEqDiff, reduceIte, reduceCtorEq, Int.reduceBEq, Int.reduceBNe, Int.reduceLT, Int.reduceLE, Int.reduceGT, Int.reduceGE, Int.reduceEq, Int.reduceAdd, Int.reduceSub, Int.reduceMul, Nat.reduceMul, Nat.reduceSub, Nat.reduceLeDiff, f6] <;> rfl), (by simp only [go_sem, Nat.reduceAdd, Nat.reduceLT, Nat.reduceEqDiff, reduceIte, reduceCtorEq, Int.reduceBEq, Int.reduceBNe, Int.reduceLT, Int.reduceLE, Int.reduceGT, Int.reduceGE, Int.reduceEq, Int.reduceAdd, Int.reduceSub, Int.reduceMul, Nat.reduceMul, Nat.reduceSub, Nat.reduceLeDiff, f7] <;> rfl), (by simp only [go_sem, Nat.reduceAdd, Nat.reduceLT, Nat.reduceEqDiff, reduceIte, reduceCtorEq, Int.reduceBEq, Int.reduceBNe, Int.reduceLT, Int.reduceLE, Int.reduceGT, Int.reduceGE, Int.reduceEq, Int.reduceAdd, Int.reduceSub, Int.reduceMul, Nat.reduceMul, Nat.reduceSub, Nat.reduceLeDiff, f8] <;> rfl), (by simp only [go_sem, Nat.reduceAdd, Nat.reduceLT, Nat.reduceEqDiff, reduceIte, reduceCtorEq, Int.reduceBEq, Int.reduceBNe, Int.reduceLT, Int.reduceLE, Int.reduceGT, Int.reduceGE, Int.reduceEq, Int.reduceAdd, Int.reduceSub, Int.reduceMul, Nat.reduceMul, Nat.reduceSub, Nat.reduceLeDiff, f9] <;> rfl), (by simp only [go_sem, Nat.reduceAdd, Nat.reduceLT, Nat.reduceEqDiff, reduceIte, reduceCtorEq, Int.reduceBEq, Int.reduceBNe, Int.reduceLT, Int.reduceLE, Int.reduceGT, Int.reduceGE, Int.reduceEq, Int.reduceAdd, Int.reduceSub, Int.reduceMul, Nat.reduceMul, Nat.reduceSub, Nat.reduceLeDiff, f10] <;> rfl), (by simp only [go_sem, Nat.reduceAdd, Nat.reduceLT, Nat.reduceEqDiff, reduceIte, reduceCtorEq, Int.reduceBEq, Int.reduceBNe, Int.reduceLT, Int.reduceLE, Int.reduceGT, Int.reduceGE, Int.reduceEq, Int.reduceAdd, Int.reduceSub, Int.reduceMul, Nat.reduceMul, Nat.reduceSub, Nat.reduceLeDiff] <;> rfl), rfl, ?_, by omega, rfl⟩
      rcases hat with ⟨h1, h2⟩ | ⟨j, h1, h2⟩
      · exact .inl ⟨by rw [ht, List.mem_append, List.mem_singleton]; exact fun h => h.elim h1 fun h => he h.symm, h2⟩
      · refine .inr ⟨j, ?_, h2⟩
        have hj := (List.getElem?_eq_some_iff.1 h1).1
        rw [ht, List.getElem?_append_left hj]; exact h1
  · have hke : k = M.length := by omega
    subst hke
    rcases hb.inv with ⟨rfl, h0, _⟩ | ⟨b, rfl, _, _⟩
    · have e1 : ¬ M.length < 0 := by omega
      refine WS_runB 10 (by simp only [go_sem, Nat.reduceAdd, Nat.reduceLT, Nat.reduceEqDiff, reduceIte, reduceCtorEq, Int.reduceBEq, Int.reduceBNe, Int.reduceLT, Int.reduceLE, Int.reduceGT, Int.reduceGE, Int.reduceEq, Int.reduceAdd, Int.reduceSub, Int.reduceMul, Nat.reduceMul, Nat.reduceSub, Nat.reduceLeDiff, k10_1, f0, f1, f6, f7, f8, f9, f10, f11, e1]; rfl) ?_
      exact h _ ⟨M.length, a, (by simp only [go_sem, Nat.reduceAdd, Nat.reduceLT, Nat.reduceEqDiff, reduceIte, reduceCtorEq, Int.reduceBEq, Int.reduceBNe, Int.reduceLT, Int.reduceLE, Int.reduceGT, Int.reduceGE, Int.reduceEq, Int.reduceAdd, Int.reduceSub, Int.reduceMul, Nat.reduceMul, Nat.reduceSub, Nat.reduceLeDiff, f0] <;> rfl), (by simp only [go_sem, Nat.reduceAdd, Nat.reduceLT, Nat.reduceEqDiff, reduceIte, reduceCtorEq, Int.reduceBEq, Int.reduceBNe, Int.reduceLT, Int.reduceLE, Int.reduceGT, Int.reduceGE, Int.reduceEq, Int.reduceAdd, Int.reduceSub, Int.reduceMul, Nat.reduceMul, Nat.reduceSub, Nat.reduceLeDiff, f1] <;> rfl), (by simp only [go_sem, Nat.reduceAdd, Nat.reduceLT, Nat.reduceEqDiff, reduceIte, reduceCtorEq, Int.reduceBEq, Int.reduceBNe, Int.reduceLT, Int.reduceLE, Int.reduceGT, Int.reduceGE, Int.reduceEq, Int.reduceAdd, Int.reduceSub, Int.reduceMul, Nat.reduceMul, Nat.reduceSub, Nat.reduceLeDiff, f6] <;> rfl), (by simp only [go_sem, Nat.reduceAdd, Nat.reduceLT, Nat.reduceEqDiff, reduceIte, reduceCtorEq, Int.reduceBEq, Int.reduceBNe, Int.reduceLT, Int.reduceLE, Int.reduceGT, Int.reduceGE, Int.reduceEq, Int.reduceAdd, Int.reduceSub, Int.reduceMul, Nat.reduceMul, Nat.reduceSub, Nat.reduceLeDiff, f7] <;> rfl), (by simp only [go_sem, Nat.reduceAdd, Nat.reduceLT, Nat.reduceEqDiff, reduceIte, reduceCtorEq, Int.reduceBEq, Int.reduceBNe, Int.reduceLT, Int.reduceLE, Int.reduceGT, Int.reduceGE, Int.reduceEq, Int.reduceAdd, Int.reduceSub, Int.reduceMul, Nat.reduceMul, Nat.reduceSub, Nat.reduceLeDiff, f8] <;> rfl), (by simp only [go_sem, Nat.reduceAdd, Nat.reduceLT, Nat.reduceEqDiff, reduceIte, reduceCtorEq, Int.reduceBEq, Int.reduceBNe, Int.reduceLT, Int.reduceLE, Int.reduceGT, Int.reduceGE, Int.reduceEq, Int.reduceAdd, Int.reduceSub, Int.reduceMul, Nat.reduceMul, Nat.reduceSub, Nat.reduceLeDiff, f9] <;> rfl), (by simp only [go_sem, Nat.reduceAdd, Nat.reduceLT, Nat.reduceEqDiff, reduceIte, reduceCtorEq, Int.reduceBEq, Int.reduceBNe, Int.reduceLT, Int.reduceLE, Int.reduceGT, Int.reduceGE, Int.reduceEq, Int.reduceAdd, Int.reduceSub, Int.reduceMul, Nat.reduceMul, Nat.reduceSub, Nat.reduceLeDiff, f10] <;> rfl), (by simp only [go_sem, Nat.reduceAdd, Nat.reduceLT, Nat.reduceEqDiff, reduceIte, reduceCtorEq, Int.reduceBEq, Int.reduceBNe, Int.reduceLT, Int.reduceLE, Int.reduceGT, Int.reduceGE, Int.reduceEq, Int.reduceAdd, Int.reduceSub, Int.reduceMul, Nat.reduceMul, Nat.reduceSub, Nat.reduceLeDiff, f11] <;> rfl), rfl, hat, hk, by omega⟩
    · refine WS_runB 10 (by simp only [go_sem, Nat.reduceAdd, Nat.reduceLT, Nat.reduceEqDiff, reduceIte, reduceCtorEq, Int.reduceBEq, Int.reduceBNe, Int.reduceLT, Int.reduceLE, Int.reduceGT, Int.reduceGE, Int.reduceEq, Int.reduceAdd, Int.reduceSub, Int.reduceMul, Nat.reduceMul, Nat.reduceSub, Nat.reduceLeDiff, k10_1, f0, f1, f6, f7, f8, f9, f10, f11, hlt]; rfl) ?_
      exact h _ ⟨M.length, a, (by simp only [go_sem, Nat.reduceAdd, Nat.reduceLT, Nat.reduceEqDiff, reduceIte, reduceCtorEq, Int.reduceBEq, Int.reduceBNe, Int.reduceLT, Int.reduceLE, Int.reduceGT, Int.reduceGE, Int.reduceEq, Int.reduceAdd, Int.reduceSub, Int.reduceMul, Nat.reduceMul, Nat.reduceSub, Nat.reduceLeDiff, f0] <;> rfl), (by simp only [go_sem, Nat.reduceAdd, Nat.reduceLT, Nat.reduceEqDiff, reduceIte, reduceCtorEq, Int.reduceBEq, Int.reduceBNe, Int.reduceLT, Int.reduceLE, Int.reduceGT, Int.reduceGE, Int.reduceEq, Int.reduceAdd, Int.reduceSub, Int.reduceMul, Nat.reduceMul, Nat.reduceSub, Nat.reduceLeDiff, f1] <;> rfl), (by simp only [go_sem, Nat.reduceAdd, Nat.reduceLT, Nat.reduceEqDiff, reduceIte, reduceCtorEq, Int.reduceBEq, Int.reduceBNe, Int.reduceLT, Int.reduceLE, Int.reduceGT, Int.reduceGE, Int.reduceEq, Int.reduceAdd, Int.reduceSub, Int.reduceMul, Nat.reduceMul, Nat.reduceSub, Nat.reduceLeDiff, f6] <;> rfl), (by simp only [go_sem, Nat.reduceAdd, Nat.reduceLT, Nat.reduceEqDiff, reduceIte, reduceCtorEq, Int.reduceBEq, Int.reduceBNe, Int.reduceLT, Int.reduceLE, Int.reduceGT, Int.reduceGE, Int.reduceEq, Int.reduceAdd, Int.reduceSub, Int.reduceMul, Nat.reduceMul, Nat.reduceSub, Nat.reduceLeDiff, f7] <;> rfl), (by simp only [go_sem, Nat.reduceAdd, Nat.reduceLT, Nat.reduceEqDiff, reduceIte, reduceCtorEq, Int.reduceBEq, Int.reduceBNe, Int.reduceLT, Int.reduceLE, Int.reduceGT, Int.reduceGE, Int.reduceEq, Int.reduceAdd, Int.reduceSub, Int.reduceMul, Nat.reduceMul, Nat.reduceSub, Nat.reduceLeDiff, f8] <;> rfl), (by simp only [go_sem, Nat.reduceAdd, Nat.reduceLT, Nat.reduceEqDiff, reduceIte, reduceCtorEq, Int.reduceBEq, Int.reduceBNe, Int.reduceLT, Int.reduceLE, Int.reduceGT, Int.reduceGE, Int.reduceEq, Int.reduceAdd, Int.reduceSub, Int.reduceMul, Nat.reduceMul, Nat.reduceSub, Nat.reduceLeDiff, f9] <;> rfl), (by simp only [go_sem, Nat.reduceAdd, Nat.reduceLT, Nat.reduceEqDiff, reduceIte, reduceCtorEq, Int.reduceBEq, Int.reduceBNe, Int.reduceLT, Int.reduceLE, Int.reduceGT, Int.reduceGE, Int.reduceEq, Int.reduceAdd, Int.reduceSub, Int.reduceMul, Nat.reduceMul, Nat.reduceSub, Nat.reduceLeDiff, f10] <;> rfl), (by simp only [go_sem, Nat.reduceAdd, Nat.reduceLT, Nat.reduceEqDiff, reduceIte, reduceCtorEq, Int.reduceBEq, Int.reduceBNe, Int.reduceLT, Int.reduceLE, Int.reduceGT, Int.reduceGE, Int.reduceEq, Int.reduceAdd, Int.reduceSub, Int.reduceMul, Nat.reduceMul, Nat.reduceSub, Nat.reduceLeDiff, f11] <;> rfl), rfl, hat, hk, by omega⟩
end Go.Proofs.Ytjidefnbancmfaa
