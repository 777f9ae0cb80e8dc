/- RelationAll: the switch: a copy; rows that go. -/
import Derived.Test.YtjidefnbancmfaaPRel14
import Derived.Test.YtjidefnbancmfaaPRel8
set_option linter.unusedVariables false
set_option linter.unusedSimpArgs false
namespace Go.Proofs.Ytjidefnbancmfaa
open Go.AE
variable {tab : Tab}
theorem all_case4 (C : Codes tab) (hP : ∀ args aw v aw', insPrim 24 args aw = some (v, aw') → tab.prim 54 args aw v aw') {bs width i : Nat} {opsV mv rv : V} {r : List Int} {a : Int} {M rows : List (List Int)} {ms : List V} {S S2 T2 U : Nat → Prop} {aw w : AW} {fr : Fr} {Q : Fr → AW → Prop} {s : List SI}
    (hF : FrS fr bs width i opsV mv rv r a) (hA : AllW aw w bs mv width M rows ms S S2 T2) (hr : RowV U w rv r) (hrl : r.length ≤ 6) (hM : M.length ≤ 100)
    (h : Goes2 tab aw bs width i (M.length + 1) opsV s Q) : WS tab (.code k10_11 :: .endB 4 :: s) fr w Q := by
  obtain ⟨⟨f0, f1, f6, f7, f8⟩, f9, f10, f12⟩ := hF
  have hlen := hA.len
  refine WS_run 1000 (by simp only [go_sem, Nat.reduceAdd, Nat.reduceLT, Nat.reduceEqDiff, reduceIte, reduceCtorEq, Int.reduceBEq, Int.reduceBNe, Int.reduceLT, Int.reduceLE, Int.reduceGT, Int.reduceGE, Int.reduceEq, Int.reduceAdd, Int.reduceSub, Int.reduceMul, Nat.reduceMul, Nat.reduceSub, Nat.reduceLeDiff, k10_11, f0, f1, f6, f7, f8, f9, f10, f12]; rfl) ?_
  refine WS_call (by simp only [go_sem, Nat.reduceAdd, Nat.reduceLT, Nat.reduceEqDiff, reduceIte, reduceCtorEq, Int.reduceBEq, Int.reduceBNe, Int.reduceLT, Int.reduceLE, Int.reduceGT, Int.reduceGE, Int.reduceEq, Int.reduceAdd, Int.reduceSub, Int.reduceMul, Nat.reduceMul, Nat.reduceSub, Nat.reduceLeDiff]) (by simp only [go_sem, Nat.reduceAdd, Nat.reduceLT, Nat.reduceEqDiff, reduceIte, reduceCtorEq, Int.reduceBEq, Int.reduceBNe, Int.reduceLT, Int.reduceLE, Int.reduceGT, Int.reduceGE, Int.reduceEq, Int.reduceAdd, Int.reduceSub, Int.reduceMul, Nat.reduceMul, Nat.reduceSub, Nat.reduceLeDiff]; rfl) ?_
  refine copy_ok C hA.set (by omega) fun q w2 hq hf2 => ?_
  have hA2 := hA.frm hf2 fun _ h => h.elim
  have hr2 : RowV U w2 rv r := hr.frm hf2 fun _ _ h => h
  by_cases hw : r.length = width
  · rw [decide_eq_true hw] at f12
    have he2 := rowV_elems hr2
    obtain ⟨v', w3, k1, k2, k3⟩ := row_copy (by omega : r.length ≤ 1000) he2
    have hA3 := hA2.frm k3 fun _ h => h.elim
    have n2 := hf2.next
    have n3 := k3.next
    refine WS_run 1000 (by simp only [go_sem, Nat.reduceAdd, Nat.reduceLT, Nat.reduceEqDiff, reduceIte, reduceCtorEq, Int.reduceBEq, Int.reduceBNe, Int.reduceLT, Int.reduceLE, Int.reduceGT, Int.reduceGE, Int.reduceEq, Int.reduceAdd, Int.reduceSub, Int.reduceMul, Nat.reduceMul, Nat.reduceSub, Nat.reduceLeDiff, f0, f1, f6, f7, f8, f9, f10, f12, he2, k1]; rfl) ?_
    refine WS_call (by simp only [go_sem, Nat.reduceAdd, Nat.reduceLT, Nat.reduceEqDiff, reduceIte, reduceCtorEq, Int.reduceBEq, Int.reduceBNe, Int.reduceLT, Int.reduceLE, Int.reduceGT, Int.reduceGE, Int.reduceEq, Int.reduceAdd, Int.reduceSub, Int.reduceMul, Nat.reduceMul, Nat.reduceSub, Nat.reduceLeDiff]) (by simp only [go_sem, Nat.reduceAdd, Nat.reduceLT, Nat.reduceEqDiff, reduceIte, reduceCtorEq, Int.reduceBEq, Int.reduceBNe, Int.reduceLT, Int.reduceLE, Int.reduceGT, Int.reduceGE, Int.reduceEq, Int.reduceAdd, Int.reduceSub, Int.reduceMul, Nat.reduceMul, Nat.reduceSub, Nat.reduceLeDiff]; rfl) ?_
    refine add_ok C hP (hq.frm k3 fun _ _ h => h) k2 (by omega) (by omega) ?_ ?_
    · intro _
      refine WS_runB 10 (by simp only [go_sem, Nat.reduceAdd, Nat.reduceLT, Nat.reduceEqDiff, reduceIte, reduceCtorEq, Int.reduceBEq, Int.reduceBNe, Int.reduceLT, Int.reduceLE, Int.reduceGT, Int.reduceGE, Int.reduceEq, Int.reduceAdd, Int.reduceSub, Int.reduceMul, Nat.reduceMul, Nat.reduceSub, Nat.reduceLeDiff, f0, f1, f6, f7, f8, f9, f10, f12]; rfl) ?_
      exact h _ _ _ _ _ _ _ _ _ ⟨(by simp only [go_sem, Nat.reduceAdd, Nat.reduceLT, Nat.reduceEqDiff, reduceIte, reduceCtorEq, Int.reduceBEq, Int.reduceBNe, Int.reduceLT, Int.reduceLE, Int.reduceGT, Int.reduceGE, Int.reduceEq, Int.reduceAdd, Int.reduceSub, Int.reduceMul, Nat.reduceMul, Nat.reduceSub, Nat.reduceLeDiff, f0] <;> rfl), (by simp only [go_sem, Nat.reduceAdd, Nat.reduceLT, Nat.reduceEqDiff, reduceIte, reduceCtorEq, Int.reduceBEq, Int.reduceBNe, Int.reduceLT, Int.reduceLE, Int.reduceGT, Int.reduceGE, Int.reduceEq, Int.reduceAdd, Int.reduceSub, Int.reduceMul, Nat.reduceMul, Nat.reduceSub, Nat.reduceLeDiff, f1] <;> rfl), (by simp only [go_sem, Nat.reduceAdd, Nat.reduceLT, Nat.reduceEqDiff, reduceIte, reduceCtorEq, Int.reduceBEq, Int.reduceBNe, Int.reduceLT, Int.reduceLE, Int.reduceGT, Int.reduceGE, Int.reduceEq, Int.reduceAdd, Int.reduceSub, Int.reduceMul, Nat.reduceMul, Nat.reduceSub, Nat.reduceLeDiff, f6] <;> rfl), (by simp only [go_sem, Nat.reduceAdd, Nat.reduceLT, Nat.reduceEqDiff, reduceIte, reduceCtorEq, Int.reduceBEq, Int.reduceBNe, Int.reduceLT, Int.reduceLE, Int.reduceGT, Int.reduceGE, Int.reduceEq, Int.reduceAdd, Int.reduceSub, Int.reduceMul, Nat.reduceMul, Nat.reduceSub, Nat.reduceLeDiff, f7] <;> rfl), (by simp only [go_sem, Nat.reduceAdd, Nat.reduceLT, Nat.reduceEqDiff, reduceIte, reduceCtorEq, Int.reduceBEq, Int.reduceBNe, Int.reduceLT, Int.reduceLE, Int.reduceGT, Int.reduceGE, Int.reduceEq, Int.reduceAdd, Int.reduceSub, Int.reduceMul, Nat.reduceMul, Nat.reduceSub, Nat.reduceLeDiff, f8] <;> rfl)⟩ hA3 (by omega)
    · intro _ _ w4 S4 _ q2 _
      refine WS_runB 10 (by simp only [go_sem, Nat.reduceAdd, Nat.reduceLT, Nat.reduceEqDiff, reduceIte, reduceCtorEq, Int.reduceBEq, Int.reduceBNe, Int.reduceLT, Int.reduceLE, Int.reduceGT, Int.reduceGE, Int.reduceEq, Int.reduceAdd, Int.reduceSub, Int.reduceMul, Nat.reduceMul, Nat.reduceSub, Nat.reduceLeDiff, f0, f1, f6, f7, f8, f9, f10, f12]; rfl) ?_
      exact h _ _ _ _ _ _ _ _ _ ⟨(by simp only [go_sem, Nat.reduceAdd, Nat.reduceLT, Nat.reduceEqDiff, reduceIte, reduceCtorEq, Int.reduceBEq, Int.reduceBNe, Int.reduceLT, Int.reduceLE, Int.reduceGT, Int.reduceGE, Int.reduceEq, Int.reduceAdd, Int.reduceSub, Int.reduceMul, Nat.reduceMul, Nat.reduceSub, Nat.reduceLeDiff, f0] <;> rfl), (by simp only [go_sem, Nat.reduceAdd, Nat.reduceLT, Nat.reduceEqDiff, reduceIte, reduceCtorEq, Int.reduceBEq, Int.reduceBNe, Int.reduceLT, Int.reduceLE, Int.reduceGT, Int.reduceGE, Int.reduceEq, Int.reduceAdd, Int.reduceSub, Int.reduceMul, Nat.reduceMul, Nat.reduceSub, Nat.reduceLeDiff, f1] <;> rfl), (by simp only [go_sem, Nat.reduceAdd, Nat.reduceLT, Nat.reduceEqDiff, reduceIte, reduceCtorEq, Int.reduceBEq, Int.reduceBNe, Int.reduceLT, Int.reduceLE, Int.reduceGT, Int.reduceGE, Int.reduceEq, Int.reduceAdd, Int.reduceSub, Int.reduceMul, Nat.reduceMul, Nat.reduceSub, Nat.reduceLeDiff, f6] <;> rfl), (by simp only [go_sem, Nat.reduceAdd, Nat.reduceLT, Nat.reduceEqDiff, reduceIte, reduceCtorEq, Int.reduceBEq, Int.reduceBNe, Int.reduceLT, Int.reduceLE, Int.reduceGT, Int.reduceGE, Int.reduceEq, Int.reduceAdd, Int.reduceSub, Int.reduceMul, Nat.reduceMul, Nat.reduceSub, Nat.reduceLeDiff, f7] <;> rfl), (by simp only [go_sem, Nat.reduceAdd, Nat.reduceLT, Nat.reduceEqDiff, reduceIte, reduceCtorEq, Int.reduceBEq, Int.reduceBNe, Int.reduceLT, Int.reduceLE, Int.reduceGT, Int.reduceGE, Int.reduceEq, Int.reduceAdd, Int.reduceSub, Int.reduceMul, Nat.reduceMul, Nat.reduceSub, Nat.reduceLeDiff, f8] <;> rfl)⟩ (hA3.frm q2 fun x hx => hA.fresh hx.1) (by omega)
  · rw [decide_eq_false hw] at f12
    refine WS_runB 10 (by simp only [go_sem, Nat.reduceAdd, Nat.reduceLT, Nat.reduceEqDiff, reduceIte, reduceCtorEq, Int.reduceBEq, Int.reduceBNe, Int.reduceLT, Int.reduceLE, Int.reduceGT, Int.reduceGE, Int.reduceEq, Int.reduceAdd, Int.reduceSub, Int.reduceMul, Nat.reduceMul, Nat.reduceSub, Nat.reduceLeDiff, f0, f1, f6, f7, f8, f9, f10, f12]; rfl) ?_
    exact h _ _ _ _ _ _ _ _ _ ⟨(by simp only [go_sem, Nat.reduceAdd, Nat.reduceLT, Nat.reduceEqDiff, reduceIte, reduceCtorEq, Int.reduceBEq, Int.reduceBNe, Int.reduceLT, Int.reduceLE, Int.reduceGT, Int.reduceGE, Int.reduceEq, Int.reduceAdd, Int.reduceSub, Int.reduceMul, Nat.reduceMul, Nat.reduceSub, Nat.reduceLeDiff, f0] <;> rfl), (by simp only [go_sem, Nat.reduceAdd, Nat.reduceLT, Nat.reduceEqDiff, reduceIte, reduceCtorEq, Int.reduceBEq, Int.reduceBNe, Int.reduceLT, Int.reduceLE, Int.reduceGT, Int.reduceGE, Int.reduceEq, Int.reduceAdd, Int.reduceSub, Int.reduceMul, Nat.reduceMul, Nat.reduceSub, Nat.reduceLeDiff, f1] <;> rfl), (by simp only [go_sem, Nat.reduceAdd, Nat.reduceLT, Nat.reduceEqDiff, reduceIte, reduceCtorEq, Int.reduceBEq, Int.reduceBNe, Int.reduceLT, Int.reduceLE, Int.reduceGT, Int.reduceGE, Int.reduceEq, Int.reduceAdd, Int.reduceSub, Int.reduceMul, Nat.reduceMul, Nat.reduceSub, Nat.reduceLeDiff, f6] <;> rfl), (by simp only [go_sem, Nat.reduceAdd, Nat.reduceLT, Nat.reduceEqDiff, reduceIte, reduceCtorEq, Int.reduceBEq, Int.reduceBNe, Int.reduceLT, Int.reduceLE, Int.reduceGT, Int.reduceGE, Int.reduceEq, Int.reduceAdd, Int.reduceSub, Int.reduceMul, Nat.reduceMul, Nat.reduceSub, Nat.reduceLeDiff, f7] <;> rfl), (by simp only [go_sem, Nat.reduceAdd, Nat.reduceLT, Nat.reduceEqDiff, reduceIte, reduceCtorEq, Int.reduceBEq, Int.reduceBNe, Int.reduceLT, Int.reduceLE, Int.reduceGT, Int.reduceGE, Int.reduceEq, Int.reduceAdd, Int.reduceSub, Int.reduceMul, Nat.reduceMul, Nat.reduceSub, Nat.reduceLeDiff, f8] <;> rfl)⟩ hA2 (by omega)
theorem mem_eraseK {M : List (List Int)} (hn : M.Nodup) {k : Nat} {r y : List Int} (hk : M[k]? = some r) : y ∈ M.eraseIdx k ↔ y ∈ M ∧ y ≠ r := by
  have hlt := (List.getElem?_eq_some_iff.1 hk).1
  rw [List.mem_eraseIdx_iff_getElem?]
  constructor
  · rintro ⟨i, hi, e⟩
    refine ⟨List.mem_of_getElem? e, fun hy => ?_⟩
    subst hy
    have hil := (List.getElem?_eq_some_iff.1 e).1
    have e1 : M[i] = M[k] := by
      rw [List.getElem?_eq_getElem hil] at e
      rw [List.getElem?_eq_getElem hlt] at hk
      rw [Option.some.inj e, Option.some.inj hk]
    exact hi (nodup_inj hn hil hlt e1)
  · rintro ⟨hy, hne⟩
    obtain ⟨i, hi, e⟩ := List.mem_iff_getElem.1 hy
    refine ⟨i, fun h => hne ?_, by rw [List.getElem?_eq_getElem hi, e]⟩
    subst h
    rw [List.getElem?_eq_getElem hi, e] at hk
    exact Option.some.inj hk
theorem all_case1 (C : Codes tab) {bs width i : Nat} {opsV mv rv : V} {r : List Int} {a : Int} {M rows : List (List Int)} {ms : List V} {S S2 T2 U : Nat → Prop} {aw w : AW} {fr : Fr} {Q : Fr → AW → Prop} {s : List SI}
    (hF : FrS fr bs width i opsV mv rv r a) (hA : AllW aw w bs mv width M rows ms S S2 T2) (hr : RowV U w rv r) (hat : At M r a) (hrl : r.length ≤ 6) (hM : M.length ≤ 100)
    (h : Goes2 tab aw bs width i (M.length + 1) opsV s Q) : WS tab (.code k10_13 :: .endB 4 :: s) fr w Q := by
  obtain ⟨⟨f0, f1, f6, f7, f8⟩, f9, f10, f12⟩ := hF
  have hlen := hA.len
  refine WS_run 1000 (by simp only [go_sem, Nat.reduceAdd, Nat.reduceLT, Nat.reduceEqDiff, reduceIte, reduceCtorEq, Int.reduceBEq, Int.reduceBNe, Int.reduceLT, Int.reduceLE, Int.reduceGT, Int.reduceGE, Int.reduceEq, Int.reduceAdd, Int.reduceSub, Int.reduceMul, Nat.reduceMul, Nat.reduceSub, Nat.reduceLeDiff, k10_13, f0, f1, f6, f7, f8, f9, f10, f12]; rfl) ?_
  refine WS_call (by simp only [go_sem, Nat.reduceAdd, Nat.reduceLT, Nat.reduceEqDiff, reduceIte, reduceCtorEq, Int.reduceBEq, Int.reduceBNe, Int.reduceLT, Int.reduceLE, Int.reduceGT, Int.reduceGE, Int.reduceEq, Int.reduceAdd, Int.reduceSub, Int.reduceMul, Nat.reduceMul, Nat.reduceSub, Nat.reduceLeDiff]) (by simp only [go_sem, Nat.reduceAdd, Nat.reduceLT, Nat.reduceEqDiff, reduceIte, reduceCtorEq, Int.reduceBEq, Int.reduceBNe, Int.reduceLT, Int.reduceLE, Int.reduceGT, Int.reduceGE, Int.reduceEq, Int.reduceAdd, Int.reduceSub, Int.reduceMul, Nat.reduceMul, Nat.reduceSub, Nat.reduceLeDiff]; rfl) ?_
  refine remove_ok C hA.set hr (by omega) (by omega) ?_ ?_
  · intro hm2
    have hm : r ∉ M := fun h => hm2 ((hA.same r).2 h)
    rcases at_mem hat with ⟨h1, _⟩ | ⟨_, rfl⟩
    · exact absurd h1 hm
    have e2 : decide ((-1 : Int) ≥ 0) = false := rfl
    refine WS_runB 20 (by simp only [go_sem, Nat.reduceAdd, Nat.reduceLT, Nat.reduceEqDiff, reduceIte, reduceCtorEq, Int.reduceBEq, Int.reduceBNe, Int.reduceLT, Int.reduceLE, Int.reduceGT, Int.reduceGE, Int.reduceEq, Int.reduceAdd, Int.reduceSub, Int.reduceMul, Nat.reduceMul, Nat.reduceSub, Nat.reduceLeDiff, f0, f1, f6, f7, f8, f9, f10, f12, e2, eqV]; rfl) ?_
    exact h _ _ _ _ _ _ _ _ _ ⟨(by simp only [go_sem, Nat.reduceAdd, Nat.reduceLT, Nat.reduceEqDiff, reduceIte, reduceCtorEq, Int.reduceBEq, Int.reduceBNe, Int.reduceLT, Int.reduceLE, Int.reduceGT, Int.reduceGE, Int.reduceEq, Int.reduceAdd, Int.reduceSub, Int.reduceMul, Nat.reduceMul, Nat.reduceSub, Nat.reduceLeDiff, f0] <;> rfl), (by simp only [go_sem, Nat.reduceAdd, Nat.reduceLT, Nat.reduceEqDiff, reduceIte, reduceCtorEq, Int.reduceBEq, Int.reduceBNe, Int.reduceLT, Int.reduceLE, Int.reduceGT, Int.reduceGE, Int.reduceEq, Int.reduceAdd, Int.reduceSub, Int.reduceMul, Nat.reduceMul, Nat.reduceSub, Nat.reduceLeDiff, f1] <;> rfl), (by simp only [go_sem, Nat.reduceAdd, Nat.reduceLT, Nat.reduceEqDiff, reduceIte, reduceCtorEq, Int.reduceBEq, Int.reduceBNe, Int.reduceLT, Int.reduceLE, Int.reduceGT, Int.reduceGE, Int.reduceEq, Int.reduceAdd, Int.reduceSub, Int.reduceMul, Nat.reduceMul, Nat.reduceSub, Nat.reduceLeDiff, f6] <;> rfl), (by simp only [go_sem, Nat.reduceAdd, Nat.reduceLT, Nat.reduceEqDiff, reduceIte, reduceCtorEq, Int.reduceBEq, Int.reduceBNe, Int.reduceLT, Int.reduceLE, Int.reduceGT, Int.reduceGE, Int.reduceEq, Int.reduceAdd, Int.reduceSub, Int.reduceMul, Nat.reduceMul, Nat.reduceSub, Nat.reduceLeDiff, f7] <;> rfl), (by simp only [go_sem, Nat.reduceAdd, Nat.reduceLT, Nat.reduceEqDiff, reduceIte, reduceCtorEq, Int.reduceBEq, Int.reduceBNe, Int.reduceLT, Int.reduceLE, Int.reduceGT, Int.reduceGE, Int.reduceEq, Int.reduceAdd, Int.reduceSub, Int.reduceMul, Nat.reduceMul, Nat.reduceSub, Nat.reduceLeDiff, f8] <;> rfl)⟩ hA (by omega)
  · intro hm2 w2 q1 q2 q3
    have hm : r ∈ M := (hA.same r).1 hm2
    obtain ⟨k, hk, rfl⟩ : ∃ k, M[k]? = some r ∧ a = Int.ofNat k := (at_mem hat).elim (fun h => h.2) fun h => absurd hm h.1
    have hkl := (List.getElem?_eq_some_iff.1 hk).1
    have e2 : 0 ≤ k := Nat.zero_le _
    have hmb : Buf S2 w2 mv 1 M.length ms := hA.mb.frm q2 fun x hx hs => (hA.d2 x hx).2.2.1 hs
    have hmr : RowsV T2 w2 ms M := hA.mr.frm q2 fun x hx hs => (hA.d3 x hx).2.2 hs
    have hml := hmb.len
    rw [Nat.mul_one] at hml
    have hone := rowsV_one hmr
    rcases hmb.inv with ⟨_, h0, _⟩ | ⟨b, rfl, _, _⟩
    · omega
    refine WS_run 1000 (by simp only [go_sem, Nat.reduceAdd, Nat.reduceLT, Nat.reduceEqDiff, reduceIte, reduceCtorEq, Int.reduceBEq, Int.reduceBNe, Int.reduceLT, Int.reduceLE, Int.reduceGT, Int.reduceGE, Int.reduceEq, Int.reduceAdd, Int.reduceSub, Int.reduceMul, Nat.reduceMul, Nat.reduceSub, Nat.reduceLeDiff, f0, f1, f6, f7, f8, f9, f10, f12, e2, eqV, k10_5]; rfl) ?_
    refine WS_drawn ?_
    have g1 : k ≤ M.length := by omega
    have g2 : k + 1 ≤ M.length := hkl
    have hwr : IntKind.wrap .i64 (Int.ofNat k + 1) = Int.ofNat (k + 1) := wrap_succ (by omega)
    have el : ∀ {w' : AW}, Buf S2 w' (.slice b 0 M.length (.upTo 1)) 1 M.length ms → ∀ o n, o + n ≤ M.length → ∀ c, w'.elems 1 (.slice b o n c) = some (n, (ms.drop o).take n) := by
      intro w' hb o n hon c
      cases n with
      | zero => simp [AW.elems]
      | succ n =>
        have := hb.load (o := o) (k := n + 1) (by omega)
        simp only [AW.elems, Nat.mul_one, this]
    have el1 := el hmb 0 k (by omega) (.upTo 1)
    rw [List.drop_zero] at el1
    obtain ⟨v1, w3, p1, p2, p3⟩ := (Own.nil (N := w2.next) (w := w2) (esz := 1)).appendAny (k := k) (bytes := 24) (news := ms.take k) (Nat.le_refl _) (by simp; omega) (by rw [allOne_iff] at hone ⊢; exact fun v hv => hone v (List.mem_of_mem_take hv)) (by omega) (by omega)
    rw [Nat.zero_add, List.nil_append] at p2
    have hf3 : Frm (fun _ => False) w2 w3 := p3.frm fun x hx h => by omega
    have hmb3 := hmb.frm hf3 fun _ _ h => h
    have el2 := el hmb3 (0 + (k + 1) * 1) (M.length - (k + 1)) (by omega) (.upTo 1)
    obtain ⟨v2, w4, p4, p5, p6⟩ := p2.appendAny (k := M.length - (k + 1)) (bytes := 24) (news := (ms.drop (0 + (k + 1) * 1)).take (M.length - (k + 1))) p3.next (by simp; omega) (by rw [allOne_iff] at hone ⊢; exact fun v hv => hone v (List.mem_of_mem_drop (List.mem_of_mem_take hv))) (by omega) (by omega)
    refine WDs_run 100 (by simp only [go_sem, Nat.reduceAdd, Nat.reduceLT, Nat.reduceEqDiff, reduceIte, reduceCtorEq, Int.reduceBEq, Int.reduceBNe, Int.reduceLT, Int.reduceLE, Int.reduceGT, Int.reduceGE, Int.reduceEq, Int.reduceAdd, Int.reduceSub, Int.reduceMul, Nat.reduceMul, Nat.reduceSub, Nat.reduceLeDiff, f0, f1, f6, f7, f8, f9, f10, f12, AW.sliceW, sliceV, g1, g2, Nat.zero_le, Nat.sub_zero, hwr, el1, p1, el2, p4]; rfl) ?_
    refine WDs_nil ⟨(show chkAll _ _ [(7, 3)] from by simp only [go_sem, Nat.reduceAdd, Nat.reduceLT, Nat.reduceEqDiff, reduceIte, reduceCtorEq, Int.reduceBEq, Int.reduceBNe, Int.reduceLT, Int.reduceLE, Int.reduceGT, Int.reduceGE, Int.reduceEq, Int.reduceAdd, Int.reduceSub, Int.reduceMul, Nat.reduceMul, Nat.reduceSub, Nat.reduceLeDiff, chkAll, chk, List.reverse_cons, List.reverse_nil, mkStp_fe, mkStp_v, mkStp_0, mkStp_1, List.getElem?_nil, false_or, or_true, or_false, exists_eq', Option.some.injEq, Prod.mk.injEq, Bool.true_eq_false, Bool.false_eq_true, and_true, true_and, implies_true,  f0, f1, f6, f7, f8, f9, f10, f12, AW.sliceW, sliceV, g1, g2, hwr]), ?_⟩
    refine WS_runB 20 (by simp only [go_sem, Nat.reduceAdd, Nat.reduceLT, Nat.reduceEqDiff, reduceIte, reduceCtorEq, Int.reduceBEq, Int.reduceBNe, Int.reduceLT, Int.reduceLE, Int.reduceGT, Int.reduceGE, Int.reduceEq, Int.reduceAdd, Int.reduceSub, Int.reduceMul, Nat.reduceMul, Nat.reduceSub, Nat.reduceLeDiff]; rfl) ?_
    have hf4 : Frm (fun x => w2.next ≤ x) w3 w4 := p6.frm fun x _ h => h
    have ecs : ms.take k ++ (ms.drop (0 + (k + 1) * 1)).take (M.length - (k + 1)) = ms.eraseIdx k := by
      rw [List.eraseIdx_eq_take_drop_succ, show 0 + (k + 1) * 1 = k + 1 by omega, List.take_of_length_le (l := ms.drop (k + 1)) (by rw [List.length_drop]; omega)]
    have n3 := hf3.next
    have n4 := hf4.next
    have hlen2 : (M.eraseIdx k).length = k + (M.length - (k + 1)) := by rw [List.length_eraseIdx, if_pos hkl]; omega
    refine h _ _ v2 (M.eraseIdx k) (rows.eraseIdx (posn rows r)) (ms.eraseIdx k) S (fun x => w2.next ≤ x ∧ x < w4.next) T2 ⟨(by simp only [go_sem, Nat.reduceAdd, Nat.reduceLT, Nat.reduceEqDiff, reduceIte, reduceCtorEq, Int.reduceBEq, Int.reduceBNe, Int.reduceLT, Int.reduceLE, Int.reduceGT, Int.reduceGE, Int.reduceEq, Int.reduceAdd, Int.reduceSub, Int.reduceMul, Nat.reduceMul, Nat.reduceSub, Nat.reduceLeDiff, f0] <;> rfl), (by simp only [go_sem, Nat.reduceAdd, Nat.reduceLT, Nat.reduceEqDiff, reduceIte, reduceCtorEq, Int.reduceBEq, Int.reduceBNe, Int.reduceLT, Int.reduceLE, Int.reduceGT, Int.reduceGE, Int.reduceEq, Int.reduceAdd, Int.reduceSub, Int.reduceMul, Nat.reduceMul, Nat.reduceSub, Nat.reduceLeDiff, f1] <;> rfl), (by simp only [go_sem, Nat.reduceAdd, Nat.reduceLT, Nat.reduceEqDiff, reduceIte, reduceCtorEq, Int.reduceBEq, Int.reduceBNe, Int.reduceLT, Int.reduceLE, Int.reduceGT, Int.reduceGE, Int.reduceEq, Int.reduceAdd, Int.reduceSub, Int.reduceMul, Nat.reduceMul, Nat.reduceSub, Nat.reduceLeDiff, f6] <;> rfl), (by simp only [go_sem, Nat.reduceAdd, Nat.reduceLT, Nat.reduceEqDiff, reduceIte, reduceCtorEq, Int.reduceBEq, Int.reduceBNe, Int.reduceLT, Int.reduceLE, Int.reduceGT, Int.reduceGE, Int.reduceEq, Int.reduceAdd, Int.reduceSub, Int.reduceMul, Nat.reduceMul, Nat.reduceSub, Nat.reduceLeDiff] <;> rfl), (by simp only [go_sem, Nat.reduceAdd, Nat.reduceLT, Nat.reduceEqDiff, reduceIte, reduceCtorEq, Int.reduceBEq, Int.reduceBNe, Int.reduceLT, Int.reduceLE, Int.reduceGT, Int.reduceGE, Int.reduceEq, Int.reduceAdd, Int.reduceSub, Int.reduceMul, Nat.reduceMul, Nat.reduceSub, Nat.reduceLeDiff, f8] <;> rfl)⟩ ?_ (by rw [List.length_eraseIdx, if_pos hkl]; omega)
    refine ⟨(q1.frm hf3 fun _ _ h => h).frm hf4 fun x hx h => by have := (hA.d1 x hx).2; omega, ?_, ?_, hA.nod.sublist (List.eraseIdx_sublist _ _), fun x hx => hA.wid x ((List.eraseIdx_sublist _ _).mem hx), ?_, fun x hx => ⟨(hA.d1 x hx).1, by have := (hA.d1 x hx).2; omega⟩, fun x hx => ⟨by have := hA.ext.le'; omega, hx.2, fun h => by have := (hA.d1 x h).2; omega, fun h => by have := (hA.d3 x h).2.1; omega⟩, fun x hx => ⟨(hA.d3 x hx).1, by have := (hA.d3 x hx).2.1; omega, (hA.d3 x hx).2.2⟩, ?_, hA.w4⟩
    · rw [hlen2, ← ecs]; exact p5.buf
    · exact rowsV_erase ((hmr.frm hf3 fun _ _ h => h).frm hf4 fun x hx h => by have := (hA.d3 x hx).2.1; omega)
    · intro y
      rw [mem_erase hA.rise.1 hm2, mem_eraseK hA.nod hk, hA.same]
    · exact ((hA.ext.trans (q2.ext hA.ext.le' fun x hx => (hA.d1 x hx).1)).trans (hf3.ext (by have := hA.ext.le'; omega) fun _ h => h.elim)).trans (hf4.ext (by have := hA.ext.le'; omega) fun x h => by have := hA.ext.le'; omega)
end Go.Proofs.Ytjidefnbancmfaa
