/- A part of the proof: PChk3, PChk4, PChk5, PChk6, PChk7, PChk8, PChk9, PChk10, PChk11, PChk12, PChk15, PChk16, PChk17, PChk18, PChk13, PChk14, PChk19. -/
import Derived.Test.YtjidefnbancmfaaKvG
/- check.Safe, whole. -/
set_option linter.unusedVariables false
set_option maxRecDepth 10000
set_option linter.unusedSimpArgs false
namespace Delphi
def needL (acc : List (List Nat)) (l : Lt) : List (List Nat) := if l.kind = 1 then acc else acc ++ cVars l.args
def bndL (acc : List (List Nat)) (l : Lt) : List (List Nat) := if l.kind = 1 then acc ++ cVars l.args else acc
theorem rNeed_eq (r : Rl) : rNeed r = r.body.foldl needL (cVars r.head.args) := rfl
theorem rBound_eq (r : Rl) : rBound r = r.body.foldl bndL [] := rfl
end Delphi
namespace Go.Proofs.Ytjidefnbancmfaa
open Go.AE Delphi
variable {tab : Tab}
structure SF (f : Fr) (n1 bm : Nat) (nv uv : V) (n i : Nat) : Prop where
  f1 : f.get 1 = some (.ptr n1 0)
  f3 : f.get 3 = some (.map bm)
  f4 : f.get 4 = some nv
  f17 : f.get 17 = some uv
  f18 : f.get 18 = some (.int .i64 (Int.ofNat n))
  f19 : f.get 19 = some (.int .i64 (Int.ofNat i))
structure SW (aw w : AW) (bm : Nat) (M : List (List Nat × Int)) (bnd bl : List (List Nat)) (N : Nat) (nv : V) (nd : List (List Nat)) (S : Nat → Prop) : Prop where
  mp : SM w bm M
  seen : Seen M bnd N
  same : ∀ x, x ∈ bnd ↔ x ∈ bl
  need : Bt S w nv 1 nd.length (strsC nd)
  frm : Frm (fun _ => False) aw w
  hbm : aw.next ≤ bm
  sep : ∀ x, S x → aw.next ≤ x ∧ x < w.next ∧ x ≠ bm
def SafI (aw : AW) (n1 bm : Nat) (uv : V) (r : Rl) (q : Nat) (f : Fr) (w : AW) : Prop :=
  ∃ i M bnd bl N nv nd S, SF f n1 bm nv uv r.body.length i ∧ SW aw w bm M bnd bl N nv nd S ∧ i ≤ r.body.length ∧ q = r.body.length - i ∧ rNeed r = (r.body.drop i).foldl needL nd ∧ rBound r = (r.body.drop i).foldl bndL bl ∧ N ≤ 1000 * i ∧ nd.length ≤ 1000 * (i + 1)
def SafJ (aw : AW) (bm : Nat) (r : Rl) (f : Fr) (w : AW) : Prop :=
  ∃ M bnd N nv S, f.get 3 = some (.map bm) ∧ f.get 4 = some nv ∧ SW aw w bm M bnd (rBound r) N nv (rNeed r) S ∧ N ≤ 1000000
theorem strsC_app (a b : List (List Nat)) : strsC (a ++ b) = strsC a ++ strsC b := by simp [strsC]
theorem strsC_one (a : List (List Nat)) : allOne (strsC a) = true := by rw [allOne_iff]; intro v hv; simp only [strsC, List.mem_map] at hv; obtain ⟨x, _, rfl⟩ := hv; rfl
theorem safe_step (C : Codes tab) {T : Nat → Prop} {aw w : AW} {n1 bm : Nat} {uv : V} {r : Rl} {q : Nat} {f : Fr} {s : List SI} {Q : Fr → AW → Prop} (hu : RdL (LtC T) T aw uv 3 r.body) (hbd : RBd r)
    (hI : SafI aw n1 bm uv r q f w) (ih : ∀ n' f' w', n' < q → SafI aw n1 bm uv r n' f' w' → WS tab (.code (.loop k_check_Safe_p6) :: .endB 0 :: s) f' w' Q)
    (out : ∀ s' f' w', SafJ aw bm r f' w' → popTo 0 s' = some s → WS tab (.code (.exit 0) :: s') f' w' Q) : WS tab (.code k_check_Safe_p6 :: .code (.loop k_check_Safe_p6) :: .endB 0 :: s) f w Q := by
  obtain ⟨i, M, bnd, bl, N, nv, nd, S, ⟨f1, f3, f4, f17, f18, f19⟩, hA, hi, rfl, hnd, hbl, hN, hndl⟩ := hI
  by_cases hlt : i < r.body.length
  case neg =>
    rw [List.drop_eq_nil_of_le (by omega : r.body.length ≤ i)] at hnd hbl
    have hnd : rNeed r = nd := hnd
    have hbl : rBound r = bl := hbl
    refine WS_runB 1000 (by simp only [go_sem, Nat.reduceAdd, Nat.reduceLT, Nat.reduceEqDiff, reduceIte, reduceCtorEq, Int.reduceBEq, Int.reduceBNe, Int.reduceLT, Int.reduceLE, Int.reduceGT, Int.reduceGE, Int.reduceEq, Int.reduceAdd, Int.reduceSub, Int.reduceMul, Nat.reduceMul, Nat.reduceSub, Nat.reduceLeDiff, k_check_Safe_p6, f18, f19, hlt]; rfl) ?_
    exact out _ _ _ ⟨M, bnd, N, nv, S, (by simp only [go_sem, eRun_exit, Nat.reduceAdd, Nat.reduceLT, Nat.reduceEqDiff, reduceIte, reduceCtorEq, Int.reduceBEq, Int.reduceBNe, Int.reduceLT, Int.reduceLE, Int.reduceGT, Int.reduceGE, Int.reduceEq, Int.reduceAdd, Int.reduceSub, Int.reduceMul, Nat.reduceMul, Nat.reduceSub, Nat.reduceLeDiff, f3] <;> rfl), (by simp only [go_sem, eRun_exit, Nat.reduceAdd, Nat.reduceLT, Nat.reduceEqDiff, reduceIte, reduceCtorEq, Int.reduceBEq, Int.reduceBNe, Int.reduceLT, Int.reduceLE, Int.reduceGT, Int.reduceGE, Int.reduceEq, Int.reduceAdd, Int.reduceSub, Int.reduceMul, Nat.reduceMul, Nat.reduceSub, Nat.reduceLeDiff, f4] <;> rfl), by rw [hnd, hbl]; exact hA, by have := hbd.body; have : N ≤ 1000 * 1000 := Nat.le_trans hN (Nat.mul_le_mul_left _ (by omega)); omega⟩ rfl
  obtain ⟨t, ht⟩ : ∃ t, r.body[i]? = some t := ⟨_, List.getElem?_eq_getElem hlt⟩
  have hd : r.body.drop i = t :: r.body.drop (i + 1) := by
    rw [List.drop_eq_getElem_cons hlt]; rw [List.getElem?_eq_getElem hlt] at ht; rw [Option.some.inj ht]
  have hargs := hbd.args t (List.mem_of_getElem? ht)
  rw [hd, List.foldl_cons] at hnd hbl
  have hwr : IntKind.wrap .i64 (Int.ofNat i + 1) = Int.ofNat (i + 1) := wrap_succ (by have := hbd.body; omega)
  obtain ⟨b, o, c, u, rfl, hTb, hbb, a3, a0, _, _, hru⟩ := lits_at (hu.frm (fun _ _ h => h.frm hA.frm fun _ _ h => h) hA.frm fun _ _ h => h) ht
  have hone : allOne [V.int .i64 (Int.ofNat t.kind), .str t.name, u] = true := by rcases hru.inv with ⟨rfl, _⟩ | ⟨_, _, _, rfl, _⟩ <;> rfl
  obtain ⟨w2, s2, c2, r2, n2⟩ := boxed w (zs := [V.int .i64 0, V.str [], V.nilslice]) (vs := [V.int .i64 (Int.ofNat t.kind), .str t.name, u]) rfl hone
  have k0 : w2.load w.next 0 1 = some [.int .i64 (Int.ofNat t.kind)] := by rw [c2.load]; rfl
  have k2 : w2.load w.next 2 1 = some [u] := by rw [c2.load]; rfl
  have nw := hA.frm.next
  have hvl := cVars_len t.args
  by_cases hk : t.kind = 1
  case neg =>
    have e1 : needL nd t = nd ++ cVars t.args := if_neg hk
    have e2 : bndL bl t = bl := if_neg hk
    rw [e1] at hnd; rw [e2] at hbl
    refine WS_run 1000 (by simp only [go_sem, eRun_exit, Nat.reduceAdd, Nat.reduceLT, Nat.reduceEqDiff, reduceIte, reduceCtorEq, Int.reduceBEq, Int.reduceBNe, Int.reduceLT, Int.reduceLE, Int.reduceGT, Int.reduceGE, Int.reduceEq, Int.reduceAdd, Int.reduceSub, Int.reduceMul, Nat.reduceMul, Nat.reduceSub, Nat.reduceLeDiff, k_check_Safe_p6, k_check_Safe_p5, k_check_Safe_p0, f4, f17, f18, f19, hlt, a3, s2, k0, k2, hk, List.length_cons, List.length_nil]; rfl) ?_
    refine WS_call (by simp only [go_sem, eRun_exit, Nat.reduceAdd, Nat.reduceLT, Nat.reduceEqDiff, reduceIte, reduceCtorEq, Int.reduceBEq, Int.reduceBNe, Int.reduceLT, Int.reduceLE, Int.reduceGT, Int.reduceGE, Int.reduceEq, Int.reduceAdd, Int.reduceSub, Int.reduceMul, Nat.reduceMul, Nat.reduceSub, Nat.reduceLeDiff]) (by simp only [go_sem, eRun_exit, Nat.reduceAdd, Nat.reduceLT, Nat.reduceEqDiff, reduceIte, reduceCtorEq, Int.reduceBEq, Int.reduceBNe, Int.reduceLT, Int.reduceLE, Int.reduceGT, Int.reduceGE, Int.reduceEq, Int.reduceAdd, Int.reduceSub, Int.reduceMul, Nat.reduceMul, Nat.reduceSub, Nat.reduceLeDiff]; rfl) ?_
    refine vars_ok C (hru.frm r2 fun _ _ h => h) (by omega) fun v w3 S3 q1 q2 q3 => ?_
    have r3 := r2.tr q2
    have need3 := hA.need.frm r3 fun _ _ h => h
    have hel := q1.rd.elems
    obtain ⟨v', w4, S4, u1, u2, u3, u4⟩ := need3.addN (news := strsC (cVars t.args)) (k := (cVars t.args).length) (bytes := 16) (by omega) (by rw [strsC_len]; omega) (strsC_one _) (by have := hbd.body; omega) (by have := hbd.body; omega)
    have hM3 := (hA.mp.frm r3 fun h => h).frm u3 fun h => (hA.sep _ h).2.2 rfl
    have n3 := r3.next
    refine WS_run 1000 (by simp only [go_sem, eRun_exit, Nat.reduceAdd, Nat.reduceLT, Nat.reduceEqDiff, reduceIte, reduceCtorEq, Int.reduceBEq, Int.reduceBNe, Int.reduceLT, Int.reduceLE, Int.reduceGT, Int.reduceGE, Int.reduceEq, Int.reduceAdd, Int.reduceSub, Int.reduceMul, Nat.reduceMul, Nat.reduceSub, Nat.reduceLeDiff, f1, f3, f4, f17, f18, f19, hel, u1, hwr]; rfl) ?_
    refine ih _ _ _ (by omega) ⟨i + 1, M, bnd, bl, N, v', nd ++ cVars t.args, S4, ⟨(by simp only [go_sem, eRun_exit, Nat.reduceAdd, Nat.reduceLT, Nat.reduceEqDiff, reduceIte, reduceCtorEq, Int.reduceBEq, Int.reduceBNe, Int.reduceLT, Int.reduceLE, Int.reduceGT, Int.reduceGE, Int.reduceEq, Int.reduceAdd, Int.reduceSub, Int.reduceMul, Nat.reduceMul, Nat.reduceSub, Nat.reduceLeDiff, f1] <;> rfl), (by simp only [go_sem, eRun_exit, Nat.reduceAdd, Nat.reduceLT, Nat.reduceEqDiff, reduceIte, reduceCtorEq, Int.reduceBEq, Int.reduceBNe, Int.reduceLT, Int.reduceLE, Int.reduceGT, Int.reduceGE, Int.reduceEq, Int.reduceAdd, Int.reduceSub, Int.reduceMul, Nat.reduceMul, Nat.reduceSub, Nat.reduceLeDiff, f3] <;> rfl), (by simp only [go_sem, eRun_exit, Nat.reduceAdd, Nat.reduceLT, Nat.reduceEqDiff, reduceIte, reduceCtorEq, Int.reduceBEq, Int.reduceBNe, Int.reduceLT, Int.reduceLE, Int.reduceGT, Int.reduceGE, Int.reduceEq, Int.reduceAdd, Int.reduceSub, Int.reduceMul, Nat.reduceMul, Nat.reduceSub, Nat.reduceLeDiff] <;> rfl), (by simp only [go_sem, eRun_exit, Nat.reduceAdd, Nat.reduceLT, Nat.reduceEqDiff, reduceIte, reduceCtorEq, Int.reduceBEq, Int.reduceBNe, Int.reduceLT, Int.reduceLE, Int.reduceGT, Int.reduceGE, Int.reduceEq, Int.reduceAdd, Int.reduceSub, Int.reduceMul, Nat.reduceMul, Nat.reduceSub, Nat.reduceLeDiff, f17] <;> rfl), (by simp only [go_sem, eRun_exit, Nat.reduceAdd, Nat.reduceLT, Nat.reduceEqDiff, reduceIte, reduceCtorEq, Int.reduceBEq, Int.reduceBNe, Int.reduceLT, Int.reduceLE, Int.reduceGT, Int.reduceGE, Int.reduceEq, Int.reduceAdd, Int.reduceSub, Int.reduceMul, Nat.reduceMul, Nat.reduceSub, Nat.reduceLeDiff, f18] <;> rfl), (by simp only [go_sem, eRun_exit, Nat.reduceAdd, Nat.reduceLT, Nat.reduceEqDiff, reduceIte, reduceCtorEq, Int.reduceBEq, Int.reduceBNe, Int.reduceLT, Int.reduceLE, Int.reduceGT, Int.reduceGE, Int.reduceEq, Int.reduceAdd, Int.reduceSub, Int.reduceMul, Nat.reduceMul, Nat.reduceSub, Nat.reduceLeDiff] <;> rfl)⟩, ⟨hM3, hA.seen, hA.same, by rw [List.length_append, strsC_app]; exact u2, (hA.frm.tr r3).trans u3 (fun _ _ h => h) (fun x hx h => by have := (hA.sep x h).1; omega), hA.hbm, fun x hx => ?_⟩, by omega, rfl, hnd, hbl, by omega, by rw [List.length_append]; omega⟩
    obtain ⟨m1, m2⟩ := u4 x hx
    have := hA.mp.lt
    rcases m2 with m2 | m2
    · exact ⟨(hA.sep x m2).1, m1, (hA.sep x m2).2.2⟩
    · exact ⟨by omega, m1, by omega⟩
  · have e1 : needL nd t = nd := if_pos hk
    have e2 : bndL bl t = bl ++ cVars t.args := if_pos hk
    rw [e1] at hnd; rw [e2] at hbl
    rw [hk] at a3 s2 k0
    refine WS_run 1000 (by simp only [go_sem, eRun_exit, Nat.reduceAdd, Nat.reduceLT, Nat.reduceEqDiff, reduceIte, reduceCtorEq, Int.reduceBEq, Int.reduceBNe, Int.reduceLT, Int.reduceLE, Int.reduceGT, Int.reduceGE, Int.reduceEq, Int.reduceAdd, Int.reduceSub, Int.reduceMul, Nat.reduceMul, Nat.reduceSub, Nat.reduceLeDiff, k_check_Safe_p6, k_check_Safe_p5, k_check_Safe_p4, f17, f18, f19, hlt, a3, s2, k0, k2, List.length_cons, List.length_nil]; rfl) ?_
    refine WS_call (by simp only [go_sem, eRun_exit, Nat.reduceAdd, Nat.reduceLT, Nat.reduceEqDiff, reduceIte, reduceCtorEq, Int.reduceBEq, Int.reduceBNe, Int.reduceLT, Int.reduceLE, Int.reduceGT, Int.reduceGE, Int.reduceEq, Int.reduceAdd, Int.reduceSub, Int.reduceMul, Nat.reduceMul, Nat.reduceSub, Nat.reduceLeDiff]) (by simp only [go_sem, eRun_exit, Nat.reduceAdd, Nat.reduceLT, Nat.reduceEqDiff, reduceIte, reduceCtorEq, Int.reduceBEq, Int.reduceBNe, Int.reduceLT, Int.reduceLE, Int.reduceGT, Int.reduceGE, Int.reduceEq, Int.reduceAdd, Int.reduceSub, Int.reduceMul, Nat.reduceMul, Nat.reduceSub, Nat.reduceLeDiff]; rfl) ?_
    refine vars_ok C (hru.frm r2 fun _ _ h => h) (by omega) fun v w3 S3 q1 q2 q3 => ?_
    have r3 := r2.tr q2
    have n3 := r3.next
    have hlv := q1.lenV
    have hM3 := hA.mp.frm r3 fun h => h
    have hbmw := hA.mp.lt
    refine WS_run 1000 (by simp only [go_sem, eRun_exit, Nat.reduceAdd, Nat.reduceLT, Nat.reduceEqDiff, reduceIte, reduceCtorEq, Int.reduceBEq, Int.reduceBNe, Int.reduceLT, Int.reduceLE, Int.reduceGT, Int.reduceGE, Int.reduceEq, Int.reduceAdd, Int.reduceSub, Int.reduceMul, Nat.reduceMul, Nat.reduceSub, Nat.reduceLeDiff, hlv]; rfl) ?_
    refine WS_loopJ (CntI w3 bm v (cVars t.args) bnd N f) (CntJ w3 bm (cVars t.args) bnd N f) (fun n f w hI ih out => cnt_step q1.rd (fun x hx he => by have := (q3 x hx).1; omega) (by have := hbd.body; omega) hI ih out) ?_ (cVars t.args).length
      ⟨0, M, bnd, (by simp only [go_sem, eRun_exit, Nat.reduceAdd, Nat.reduceLT, Nat.reduceEqDiff, reduceIte, reduceCtorEq, Int.reduceBEq, Int.reduceBNe, Int.reduceLT, Int.reduceLE, Int.reduceGT, Int.reduceGE, Int.reduceEq, Int.reduceAdd, Int.reduceSub, Int.reduceMul, Nat.reduceMul, Nat.reduceSub, Nat.reduceLeDiff, f3] <;> rfl), (by simp only [go_sem, eRun_exit, Nat.reduceAdd, Nat.reduceLT, Nat.reduceEqDiff, reduceIte, reduceCtorEq, Int.reduceBEq, Int.reduceBNe, Int.reduceLT, Int.reduceLE, Int.reduceGT, Int.reduceGE, Int.reduceEq, Int.reduceAdd, Int.reduceSub, Int.reduceMul, Nat.reduceMul, Nat.reduceSub, Nat.reduceLeDiff] <;> rfl), (by simp only [go_sem, eRun_exit, Nat.reduceAdd, Nat.reduceLT, Nat.reduceEqDiff, reduceIte, reduceCtorEq, Int.reduceBEq, Int.reduceBNe, Int.reduceLT, Int.reduceLE, Int.reduceGT, Int.reduceGE, Int.reduceEq, Int.reduceAdd, Int.reduceSub, Int.reduceMul, Nat.reduceMul, Nat.reduceSub, Nat.reduceLeDiff] <;> rfl), (by simp only [go_sem, eRun_exit, Nat.reduceAdd, Nat.reduceLT, Nat.reduceEqDiff, reduceIte, reduceCtorEq, Int.reduceBEq, Int.reduceBNe, Int.reduceLT, Int.reduceLE, Int.reduceGT, Int.reduceGE, Int.reduceEq, Int.reduceAdd, Int.reduceSub, Int.reduceMul, Nat.reduceMul, Nat.reduceSub, Nat.reduceLeDiff] <;> rfl), ?_, by omega, rfl, hM3, hA.seen, by simp, Frm.refl _, rfl⟩
    · rintro f' w4 ⟨M', bnd', g3, hold, hM4, hs4, hb4, hf4, hn4⟩
      have g1 := (hold 1 (by simp)).trans f1
      have g4 := (hold 4 (by simp)).trans f4
      have g17 := (hold 17 (by simp)).trans f17
      have g18 := (hold 18 (by simp)).trans f18
      have g19 := (hold 19 (by simp)).trans f19
      refine WS_run 1000 (by simp only [go_sem, eRun_exit, Nat.reduceAdd, Nat.reduceLT, Nat.reduceEqDiff, reduceIte, reduceCtorEq, Int.reduceBEq, Int.reduceBNe, Int.reduceLT, Int.reduceLE, Int.reduceGT, Int.reduceGE, Int.reduceEq, Int.reduceAdd, Int.reduceSub, Int.reduceMul, Nat.reduceMul, Nat.reduceSub, Nat.reduceLeDiff, g19, hwr]; rfl) ?_
      exact ih _ _ _ (by omega) ⟨i + 1, M', bnd', bl ++ cVars t.args, N + (cVars t.args).length, nv, nd, S, ⟨(by simp only [go_sem, eRun_exit, Nat.reduceAdd, Nat.reduceLT, Nat.reduceEqDiff, reduceIte, reduceCtorEq, Int.reduceBEq, Int.reduceBNe, Int.reduceLT, Int.reduceLE, Int.reduceGT, Int.reduceGE, Int.reduceEq, Int.reduceAdd, Int.reduceSub, Int.reduceMul, Nat.reduceMul, Nat.reduceSub, Nat.reduceLeDiff, g1] <;> rfl), (by simp only [go_sem, eRun_exit, Nat.reduceAdd, Nat.reduceLT, Nat.reduceEqDiff, reduceIte, reduceCtorEq, Int.reduceBEq, Int.reduceBNe, Int.reduceLT, Int.reduceLE, Int.reduceGT, Int.reduceGE, Int.reduceEq, Int.reduceAdd, Int.reduceSub, Int.reduceMul, Nat.reduceMul, Nat.reduceSub, Nat.reduceLeDiff, g3] <;> rfl), (by simp only [go_sem, eRun_exit, Nat.reduceAdd, Nat.reduceLT, Nat.reduceEqDiff, reduceIte, reduceCtorEq, Int.reduceBEq, Int.reduceBNe, Int.reduceLT, Int.reduceLE, Int.reduceGT, Int.reduceGE, Int.reduceEq, Int.reduceAdd, Int.reduceSub, Int.reduceMul, Nat.reduceMul, Nat.reduceSub, Nat.reduceLeDiff, g4] <;> rfl), (by simp only [go_sem, eRun_exit, Nat.reduceAdd, Nat.reduceLT, Nat.reduceEqDiff, reduceIte, reduceCtorEq, Int.reduceBEq, Int.reduceBNe, Int.reduceLT, Int.reduceLE, Int.reduceGT, Int.reduceGE, Int.reduceEq, Int.reduceAdd, Int.reduceSub, Int.reduceMul, Nat.reduceMul, Nat.reduceSub, Nat.reduceLeDiff, g17] <;> rfl), (by simp only [go_sem, eRun_exit, Nat.reduceAdd, Nat.reduceLT, Nat.reduceEqDiff, reduceIte, reduceCtorEq, Int.reduceBEq, Int.reduceBNe, Int.reduceLT, Int.reduceLE, Int.reduceGT, Int.reduceGE, Int.reduceEq, Int.reduceAdd, Int.reduceSub, Int.reduceMul, Nat.reduceMul, Nat.reduceSub, Nat.reduceLeDiff, g18] <;> rfl), (by simp only [go_sem, eRun_exit, Nat.reduceAdd, Nat.reduceLT, Nat.reduceEqDiff, reduceIte, reduceCtorEq, Int.reduceBEq, Int.reduceBNe, Int.reduceLT, Int.reduceLE, Int.reduceGT, Int.reduceGE, Int.reduceEq, Int.reduceAdd, Int.reduceSub, Int.reduceMul, Nat.reduceMul, Nat.reduceSub, Nat.reduceLeDiff] <;> rfl)⟩, ⟨hM4, hs4, fun x => by rw [hb4, hA.same, List.mem_append], (hA.need.frm r3 fun _ _ h => h).frm hf4 fun x hx he => (hA.sep x hx).2.2 he, (hA.frm.tr r3).trans hf4 (fun _ _ h => h) (by rintro x hx rfl; have := hA.hbm; omega), hA.hbm, fun x hx => by have := hA.sep x hx; exact ⟨this.1, by omega, this.2.2⟩⟩, by omega, rfl, hnd, hbl, by omega, by omega⟩
    · rintro y hy
      rcases hy with rfl | rfl | rfl | rfl | rfl | rfl <;> exact (by simp only [go_sem, eRun_exit, Nat.reduceAdd, Nat.reduceLT, Nat.reduceEqDiff, reduceIte, reduceCtorEq, Int.reduceBEq, Int.reduceBNe, Int.reduceLT, Int.reduceLE, Int.reduceGT, Int.reduceGE, Int.reduceEq, Int.reduceAdd, Int.reduceSub, Int.reduceMul, Nat.reduceMul, Nat.reduceSub, Nat.reduceLeDiff] <;> rfl)
def NdI (aw : AW) (bm : Nat) (nv : V) (nd bl : List (List Nat)) (w0 : AW) (q : Nat) (f : Fr) (w : AW) : Prop :=
  ∃ j, f.get 3 = some (.map bm) ∧ f.get 45 = some nv ∧ f.get 46 = some (.int .i64 (Int.ofNat nd.length)) ∧ f.get 47 = some (.int .i64 (Int.ofNat j)) ∧ j ≤ nd.length ∧ q = nd.length - j ∧ (∀ x ∈ nd.take j, x ∈ bl) ∧ w = w0
/-- Safe. -/
theorem safe_ok (C : Codes tab) {T : Nat → Prop} {aw : AW} {xs : List V} {r : Rl} {K : V → AW → Prop} (hr : RlC T aw r xs) (hbd : RBd r) (h : ∀ w, Frm (fun _ => False) aw w → K (.bool (cSafe r)) w) : WF tab n_check_Safe [.agg xs] aw K := by
  refine WF_of C.c_check_Safe rfl ?_
  have hone := hr.one
  obtain ⟨v, u, rfl, hv, hu⟩ := hr
  have cb := fresh_cb aw [V.int .i64 (Int.ofNat r.head.kind), .str r.head.name, v, u]
  have ff := fresh_frm (S := fun _ => False) aw [V.int .i64 (Int.ofNat r.head.kind), .str r.head.name, v, u]
  generalize hw1 : aw.fresh [V.int .i64 (Int.ofNat r.head.kind), .str r.head.name, v, u] = w1 at cb ff
  have n1 : w1.next = aw.next + 1 := by rw [← hw1]; rfl
  have fm := mnew_frm (S := fun _ => False) w1
  have cb2 := cb.frm fm fun h => h
  have l2 : (w1.new (.map [] 0)).load aw.next 2 1 = some [v] := by rw [cb2.load]; rfl
  have f02 := ff.tr fm
  refine WS_run 1000 (by simp only [go_sem, eRun_exit, Nat.reduceAdd, Nat.reduceLT, Nat.reduceEqDiff, reduceIte, reduceCtorEq, Int.reduceBEq, Int.reduceBNe, Int.reduceLT, Int.reduceLE, Int.reduceGT, Int.reduceGE, Int.reduceEq, Int.reduceAdd, Int.reduceSub, Int.reduceMul, Nat.reduceMul, Nat.reduceSub, Nat.reduceLeDiff, k_check_Safe, k_check_Safe_p12, hw1, l2]; rfl) ?_
  refine WS_call (by simp only [go_sem, eRun_exit, Nat.reduceAdd, Nat.reduceLT, Nat.reduceEqDiff, reduceIte, reduceCtorEq, Int.reduceBEq, Int.reduceBNe, Int.reduceLT, Int.reduceLE, Int.reduceGT, Int.reduceGE, Int.reduceEq, Int.reduceAdd, Int.reduceSub, Int.reduceMul, Nat.reduceMul, Nat.reduceSub, Nat.reduceLeDiff]) (by simp only [go_sem, eRun_exit, Nat.reduceAdd, Nat.reduceLT, Nat.reduceEqDiff, reduceIte, reduceCtorEq, Int.reduceBEq, Int.reduceBNe, Int.reduceLT, Int.reduceLE, Int.reduceGT, Int.reduceGE, Int.reduceEq, Int.reduceAdd, Int.reduceSub, Int.reduceMul, Nat.reduceMul, Nat.reduceSub, Nat.reduceLeDiff]; rfl) ?_
  refine vars_ok C (hv.frm f02 fun _ _ h => h) (by have := hbd.head; omega) fun nv w3 S3 q1 q2 q3 => ?_
  have cb3 := cb2.frm q2 fun h => h
  have l3 : w3.load aw.next 3 1 = some [u] := by rw [cb3.load]; rfl
  have f03 := f02.tr q2
  have hlv := rdL_lenV hu
  have nn : (w1.new (.map [] 0)).next = w1.next + 1 := rfl
  have hvl := cVars_len r.head.args
  have hM : SM w3 w1.next ([] : List (List Nat × Int)) := (MB.new w1).frm q2 fun h => h
  refine WS_run 1000 (by simp only [go_sem, eRun_exit, Nat.reduceAdd, Nat.reduceLT, Nat.reduceEqDiff, reduceIte, reduceCtorEq, Int.reduceBEq, Int.reduceBNe, Int.reduceLT, Int.reduceLE, Int.reduceGT, Int.reduceGE, Int.reduceEq, Int.reduceAdd, Int.reduceSub, Int.reduceMul, Nat.reduceMul, Nat.reduceSub, Nat.reduceLeDiff, k_check_Safe_p11, l3, hlv]; rfl) ?_
  refine WS_loopJ (SafI aw aw.next w1.next u r) (SafJ aw w1.next r) (fun n f w hI ih out => safe_step C hu hbd hI ih out) ?_ r.body.length
    ⟨0, [], [], [], 0, nv, cVars r.head.args, S3, ⟨(by simp only [go_sem, eRun_exit, Nat.reduceAdd, Nat.reduceLT, Nat.reduceEqDiff, reduceIte, reduceCtorEq, Int.reduceBEq, Int.reduceBNe, Int.reduceLT, Int.reduceLE, Int.reduceGT, Int.reduceGE, Int.reduceEq, Int.reduceAdd, Int.reduceSub, Int.reduceMul, Nat.reduceMul, Nat.reduceSub, Nat.reduceLeDiff] <;> rfl), (by simp only [go_sem, eRun_exit, Nat.reduceAdd, Nat.reduceLT, Nat.reduceEqDiff, reduceIte, reduceCtorEq, Int.reduceBEq, Int.reduceBNe, Int.reduceLT, Int.reduceLE, Int.reduceGT, Int.reduceGE, Int.reduceEq, Int.reduceAdd, Int.reduceSub, Int.reduceMul, Nat.reduceMul, Nat.reduceSub, Nat.reduceLeDiff] <;> rfl), (by simp only [go_sem, eRun_exit, Nat.reduceAdd, Nat.reduceLT, Nat.reduceEqDiff, reduceIte, reduceCtorEq, Int.reduceBEq, Int.reduceBNe, Int.reduceLT, Int.reduceLE, Int.reduceGT, Int.reduceGE, Int.reduceEq, Int.reduceAdd, Int.reduceSub, Int.reduceMul, Nat.reduceMul, Nat.reduceSub, Nat.reduceLeDiff] <;> rfl), (by simp only [go_sem, eRun_exit, Nat.reduceAdd, Nat.reduceLT, Nat.reduceEqDiff, reduceIte, reduceCtorEq, Int.reduceBEq, Int.reduceBNe, Int.reduceLT, Int.reduceLE, Int.reduceGT, Int.reduceGE, Int.reduceEq, Int.reduceAdd, Int.reduceSub, Int.reduceMul, Nat.reduceMul, Nat.reduceSub, Nat.reduceLeDiff] <;> rfl), (by simp only [go_sem, eRun_exit, Nat.reduceAdd, Nat.reduceLT, Nat.reduceEqDiff, reduceIte, reduceCtorEq, Int.reduceBEq, Int.reduceBNe, Int.reduceLT, Int.reduceLE, Int.reduceGT, Int.reduceGE, Int.reduceEq, Int.reduceAdd, Int.reduceSub, Int.reduceMul, Nat.reduceMul, Nat.reduceSub, Nat.reduceLeDiff] <;> rfl), (by simp only [go_sem, eRun_exit, Nat.reduceAdd, Nat.reduceLT, Nat.reduceEqDiff, reduceIte, reduceCtorEq, Int.reduceBEq, Int.reduceBNe, Int.reduceLT, Int.reduceLE, Int.reduceGT, Int.reduceGE, Int.reduceEq, Int.reduceAdd, Int.reduceSub, Int.reduceMul, Nat.reduceMul, Nat.reduceSub, Nat.reduceLeDiff] <;> rfl)⟩, ⟨hM, fun x => ⟨by simp [aget], fun c hc => by simp [aget] at hc⟩, fun x => Iff.rfl, q1, f03, by omega, fun x hx => by have := q3 x hx; exact ⟨by omega, by omega, by omega⟩⟩, by omega, rfl, rfl, rfl, by omega, by have := hbd.head; omega⟩
  rintro f w ⟨M, bnd, N, nv', S, f3, f4, hA, hN⟩
  have hln := hA.need.lenV
  refine WS_run 1000 (by simp only [go_sem, eRun_exit, Nat.reduceAdd, Nat.reduceLT, Nat.reduceEqDiff, reduceIte, reduceCtorEq, Int.reduceBEq, Int.reduceBNe, Int.reduceLT, Int.reduceLE, Int.reduceGT, Int.reduceGE, Int.reduceEq, Int.reduceAdd, Int.reduceSub, Int.reduceMul, Nat.reduceMul, Nat.reduceSub, Nat.reduceLeDiff, f4, hln]; rfl) ?_
  refine WS_loopJ (NdI aw w1.next nv' (rNeed r) (rBound r) w) (fun f' w' => w' = w ∧ ∀ x ∈ rNeed r, x ∈ rBound r) ?_ ?_ (rNeed r).length ⟨0, (by simp only [go_sem, eRun_exit, Nat.reduceAdd, Nat.reduceLT, Nat.reduceEqDiff, reduceIte, reduceCtorEq, Int.reduceBEq, Int.reduceBNe, Int.reduceLT, Int.reduceLE, Int.reduceGT, Int.reduceGE, Int.reduceEq, Int.reduceAdd, Int.reduceSub, Int.reduceMul, Nat.reduceMul, Nat.reduceSub, Nat.reduceLeDiff, f3] <;> rfl), (by simp only [go_sem, eRun_exit, Nat.reduceAdd, Nat.reduceLT, Nat.reduceEqDiff, reduceIte, reduceCtorEq, Int.reduceBEq, Int.reduceBNe, Int.reduceLT, Int.reduceLE, Int.reduceGT, Int.reduceGE, Int.reduceEq, Int.reduceAdd, Int.reduceSub, Int.reduceMul, Nat.reduceMul, Nat.reduceSub, Nat.reduceLeDiff] <;> rfl), (by simp only [go_sem, eRun_exit, Nat.reduceAdd, Nat.reduceLT, Nat.reduceEqDiff, reduceIte, reduceCtorEq, Int.reduceBEq, Int.reduceBNe, Int.reduceLT, Int.reduceLE, Int.reduceGT, Int.reduceGE, Int.reduceEq, Int.reduceAdd, Int.reduceSub, Int.reduceMul, Nat.reduceMul, Nat.reduceSub, Nat.reduceLeDiff] <;> rfl), (by simp only [go_sem, eRun_exit, Nat.reduceAdd, Nat.reduceLT, Nat.reduceEqDiff, reduceIte, reduceCtorEq, Int.reduceBEq, Int.reduceBNe, Int.reduceLT, Int.reduceLE, Int.reduceGT, Int.reduceGE, Int.reduceEq, Int.reduceAdd, Int.reduceSub, Int.reduceMul, Nat.reduceMul, Nat.reduceSub, Nat.reduceLeDiff] <;> rfl), by omega, rfl, by simp, rfl⟩
  · rintro q f w' ⟨j, f3, f45, f46, f47, hj, rfl, hall, rfl⟩ ih exit
    by_cases hlt : j < (rNeed r).length
    case neg =>
      rw [List.take_of_length_le (by omega)] at hall
      refine WS_runB 1000 (by simp only [go_sem, Nat.reduceAdd, Nat.reduceLT, Nat.reduceEqDiff, reduceIte, reduceCtorEq, Int.reduceBEq, Int.reduceBNe, Int.reduceLT, Int.reduceLE, Int.reduceGT, Int.reduceGE, Int.reduceEq, Int.reduceAdd, Int.reduceSub, Int.reduceMul, Nat.reduceMul, Nat.reduceSub, Nat.reduceLeDiff, k_check_Safe_p10, f46, f47, hlt]; rfl) ?_
      exact exit _ _ _ ⟨rfl, hall⟩ rfl
    obtain ⟨x, hx⟩ : ∃ v, (rNeed r)[j]? = some v := ⟨_, List.getElem?_eq_getElem hlt⟩
    obtain ⟨b, o, c, rfl, _, hbl, a1⟩ := strs_at hA.need.rd hx
    obtain ⟨n, hn0, hn1, hgn⟩ := seen_look hA.seen x
    have look := hA.mp.look strKey (.int .i64 0) x
    rw [hgn] at look
    have hwr : IntKind.wrap .i64 (Int.ofNat j + 1) = Int.ofNat (j + 1) := by
      have : (rNeed r).length < 9223372036854775807 := by
        have := hA.need.rd
        rcases hA.need.rd.inv with ⟨h1, _⟩ | ⟨b', o', c', h1, hB⟩
        · cases h1
        · have h3 : ∀ (l : List Lt) (acc : List (List Nat)), (∀ l' ∈ l, l'.args.length ≤ 1000) → (l.foldl needL acc).length ≤ acc.length + 1000 * l.length := by
            intro l
            induction l with
            | nil => intro acc _; simp
            | cons t l ih =>
              intro acc hl
              have h4 := ih (needL acc t) fun l' hl' => hl l' (by simp [hl'])
              have h5 : (needL acc t).length ≤ acc.length + 1000 := by
                unfold needL
                split
                · omega
                · have := cVars_len t.args; have := hl t (by simp); rw [List.length_append]; omega
              rw [List.foldl_cons, List.length_cons]
              omega
          have h4 := h3 r.body (cVars r.head.args) hbd.args
          rw [← rNeed_eq] at h4
          have := hbd.head; have := hbd.body
          omega
      exact wrap_succ (by omega)
    by_cases hz : n = 0
    · have hno : x ∉ rBound r := fun h => hn1.1 hz ((hA.same x).2 h)
      have hs : cSafe r = false := by
        unfold cSafe
        rw [List.all_eq_false]
        exact ⟨x, List.mem_of_getElem? hx, by simpa using hno⟩
      subst hz
      refine WS_run 1000 (by simp only [go_sem, eRun_exit, Nat.reduceAdd, Nat.reduceLT, Nat.reduceEqDiff, reduceIte, reduceCtorEq, Int.reduceBEq, Int.reduceBNe, Int.reduceLT, Int.reduceLE, Int.reduceGT, Int.reduceGE, Int.reduceEq, Int.reduceAdd, Int.reduceSub, Int.reduceMul, Nat.reduceMul, Nat.reduceSub, Nat.reduceLeDiff, k_check_Safe_p10, k_check_Safe_p9, k_check_Safe_p8, k_check_Safe_p7, f3, f45, f46, f47, hlt, a1, look]; rfl) ?_
      refine WS_ret ⟨_, by simp only [go_sem, eRun_exit, Nat.reduceAdd, Nat.reduceLT, Nat.reduceEqDiff, reduceIte, reduceCtorEq, Int.reduceBEq, Int.reduceBNe, Int.reduceLT, Int.reduceLE, Int.reduceGT, Int.reduceGE, Int.reduceEq, Int.reduceAdd, Int.reduceSub, Int.reduceMul, Nat.reduceMul, Nat.reduceSub, Nat.reduceLeDiff, k_check_Safe]; rfl, ?_⟩
      have := h w' hA.frm
      rw [hs] at this; exact this
    · refine WS_run 1000 (by simp only [go_sem, eRun_exit, Nat.reduceAdd, Nat.reduceLT, Nat.reduceEqDiff, reduceIte, reduceCtorEq, Int.reduceBEq, Int.reduceBNe, Int.reduceLT, Int.reduceLE, Int.reduceGT, Int.reduceGE, Int.reduceEq, Int.reduceAdd, Int.reduceSub, Int.reduceMul, Nat.reduceMul, Nat.reduceSub, Nat.reduceLeDiff, k_check_Safe_p10, k_check_Safe_p9, k_check_Safe_p8, f3, f45, f46, f47, hlt, a1, look, hz, hwr]; rfl) ?_
      refine ih _ _ _ (by omega) ⟨j + 1, (by simp only [go_sem, eRun_exit, Nat.reduceAdd, Nat.reduceLT, Nat.reduceEqDiff, reduceIte, reduceCtorEq, Int.reduceBEq, Int.reduceBNe, Int.reduceLT, Int.reduceLE, Int.reduceGT, Int.reduceGE, Int.reduceEq, Int.reduceAdd, Int.reduceSub, Int.reduceMul, Nat.reduceMul, Nat.reduceSub, Nat.reduceLeDiff, f3] <;> rfl), (by simp only [go_sem, eRun_exit, Nat.reduceAdd, Nat.reduceLT, Nat.reduceEqDiff, reduceIte, reduceCtorEq, Int.reduceBEq, Int.reduceBNe, Int.reduceLT, Int.reduceLE, Int.reduceGT, Int.reduceGE, Int.reduceEq, Int.reduceAdd, Int.reduceSub, Int.reduceMul, Nat.reduceMul, Nat.reduceSub, Nat.reduceLeDiff, f45] <;> rfl), (by simp only [go_sem, eRun_exit, Nat.reduceAdd, Nat.reduceLT, Nat.reduceEqDiff, reduceIte, reduceCtorEq, Int.reduceBEq, Int.reduceBNe, Int.reduceLT, Int.reduceLE, Int.reduceGT, Int.reduceGE, Int.reduceEq, Int.reduceAdd, Int.reduceSub, Int.reduceMul, Nat.reduceMul, Nat.reduceSub, Nat.reduceLeDiff, f46] <;> rfl), (by simp only [go_sem, eRun_exit, Nat.reduceAdd, Nat.reduceLT, Nat.reduceEqDiff, reduceIte, reduceCtorEq, Int.reduceBEq, Int.reduceBNe, Int.reduceLT, Int.reduceLE, Int.reduceGT, Int.reduceGE, Int.reduceEq, Int.reduceAdd, Int.reduceSub, Int.reduceMul, Nat.reduceMul, Nat.reduceSub, Nat.reduceLeDiff] <;> rfl), by omega, rfl, fun y hy => ?_, rfl⟩
      have ht : (rNeed r).take (j + 1) = (rNeed r).take j ++ [x] := by rw [List.take_add_one, hx]; rfl
      rw [ht, List.mem_append, List.mem_singleton] at hy
      rcases hy with hy | rfl
      · exact hall y hy
      · exact (hA.same y).1 (Classical.byContradiction fun hc => hz (hn1.2 hc))
  · rintro f w' ⟨rfl, hall⟩
    have hs : cSafe r = true := by
      unfold cSafe
      rw [List.all_eq_true]
      intro x hx
      simpa using hall x hx
    refine WS_run 1000 (by simp only [go_sem, eRun_exit, Nat.reduceAdd, Nat.reduceLT, Nat.reduceEqDiff, reduceIte, reduceCtorEq, Int.reduceBEq, Int.reduceBNe, Int.reduceLT, Int.reduceLE, Int.reduceGT, Int.reduceGE, Int.reduceEq, Int.reduceAdd, Int.reduceSub, Int.reduceMul, Nat.reduceMul, Nat.reduceSub, Nat.reduceLeDiff]; rfl) ?_
    refine WS_ret ⟨_, by simp only [go_sem, eRun_exit, Nat.reduceAdd, Nat.reduceLT, Nat.reduceEqDiff, reduceIte, reduceCtorEq, Int.reduceBEq, Int.reduceBNe, Int.reduceLT, Int.reduceLE, Int.reduceGT, Int.reduceGE, Int.reduceEq, Int.reduceAdd, Int.reduceSub, Int.reduceMul, Nat.reduceMul, Nat.reduceSub, Nat.reduceLeDiff, k_check_Safe]; rfl, ?_⟩
    have := h w' hA.frm
    rw [hs] at this; exact this
end Go.Proofs.Ytjidefnbancmfaa

/- The reference's Safe. -/
set_option linter.unusedVariables false
set_option maxRecDepth 10000
set_option linter.unusedSimpArgs false
namespace Delphi
theorem mem_cVars {v : List Nat} {l : List Tm} : v ∈ cVars l ↔ ∃ t ∈ l, t.kind = 1 ∧ t.name = v := by
  have : ∀ (l : List Tm) (out : List (List Nat)), v ∈ l.foldl addVar out ↔ v ∈ out ∨ ∃ t ∈ l, t.kind = 1 ∧ t.name = v := by
    intro l
    induction l with
    | nil => intro out; simp
    | cons t l ih =>
      intro out
      rw [List.foldl_cons, ih]
      have h : v ∈ addVar out t ↔ v ∈ out ∨ (t.kind = 1 ∧ t.name = v) := by
        unfold addVar
        split
        · rename_i hc
          rw [List.mem_append, List.mem_singleton]
          exact ⟨fun h => h.imp (fun h => h) fun h => ⟨hc.1, h.symm⟩, fun h => h.imp (fun h => h) fun h => h.2.symm⟩
        · rename_i hc
          refine ⟨.inl, fun h => h.elim (fun h => h) ?_⟩
          rintro ⟨h1, rfl⟩
          exact Classical.byContradiction fun hn => hc ⟨h1, hn⟩
      rw [h]
      simp only [List.mem_cons, exists_eq_or_imp, or_assoc]
  simpa [cVars] using this l []
theorem mem_bndL {v : List Nat} : ∀ (l : List Lt) (acc : List (List Nat)), v ∈ l.foldl bndL acc ↔ v ∈ acc ∨ ∃ x ∈ l, x.kind = 1 ∧ ∃ t ∈ x.args, t.kind = 1 ∧ t.name = v
  | [], acc => by simp
  | x :: l, acc => by
    rw [List.foldl_cons, mem_bndL l]
    have h : v ∈ bndL acc x ↔ v ∈ acc ∨ (x.kind = 1 ∧ ∃ t ∈ x.args, t.kind = 1 ∧ t.name = v) := by
      unfold bndL
      split
      · rename_i hc
        rw [List.mem_append, mem_cVars]
        exact ⟨fun h => h.imp (fun h => h) fun h => ⟨hc, h⟩, fun h => h.imp (fun h => h) fun h => h.2⟩
      · rename_i hc
        exact ⟨.inl, fun h => h.elim (fun h => h) fun h => absurd h.1 hc⟩
    rw [h]
    simp only [List.mem_cons, exists_eq_or_imp, or_assoc]
theorem mem_needL {v : List Nat} : ∀ (l : List Lt) (acc : List (List Nat)), v ∈ l.foldl needL acc ↔ v ∈ acc ∨ ∃ x ∈ l, x.kind ≠ 1 ∧ ∃ t ∈ x.args, t.kind = 1 ∧ t.name = v
  | [], acc => by simp
  | x :: l, acc => by
    rw [List.foldl_cons, mem_needL l]
    have h : v ∈ needL acc x ↔ v ∈ acc ∨ (x.kind ≠ 1 ∧ ∃ t ∈ x.args, t.kind = 1 ∧ t.name = v) := by
      unfold needL
      split
      · rename_i hc
        exact ⟨.inl, fun h => h.elim (fun h => h) fun h => absurd hc h.1⟩
      · rename_i hc
        rw [List.mem_append, mem_cVars]
        exact ⟨fun h => h.imp (fun h => h) fun h => ⟨hc, h⟩, fun h => h.imp (fun h => h) fun h => h.2⟩
    rw [h]
    simp only [List.mem_cons, exists_eq_or_imp, or_assoc]
theorem mem_rBound {v : List Nat} {r : Rl} : v ∈ rBound r ↔ ∃ x ∈ r.body, x.kind = 1 ∧ ∃ t ∈ x.args, t.kind = 1 ∧ t.name = v := by
  rw [rBound_eq, mem_bndL]; simp
theorem mem_rNeed {v : List Nat} {r : Rl} : v ∈ rNeed r ↔ (∃ t ∈ r.head.args, t.kind = 1 ∧ t.name = v) ∨ ∃ x ∈ r.body, x.kind ≠ 1 ∧ ∃ t ∈ x.args, t.kind = 1 ∧ t.name = v := by
  rw [rNeed_eq, mem_needL, mem_cVars]
end Delphi
namespace Go.Proofs.Ytjidefnbancmfaa
open Go.AE Delphi
variable {tab : Tab}
end Go.Proofs.Ytjidefnbancmfaa

/- The reference's Safe, whole. -/
set_option linter.unusedVariables false
set_option maxRecDepth 10000
set_option linter.unusedSimpArgs false
namespace Go.Proofs.Ytjidefnbancmfaa
open Go.AE Delphi
variable {tab : Tab}
/-- head and body. -/
def rAll (r : Rl) : List Lt := r.head :: r.body
end Go.Proofs.Ytjidefnbancmfaa

/- check.Arities. -/
set_option linter.unusedVariables false
set_option maxRecDepth 10000
set_option linter.unusedSimpArgs false
namespace Delphi
open Go.AE
structure Fa where
  name : List Nat
  args : List (Int × List Nat × Int × Unit)
abbrev Ps := List (List Nat × Int)
end Delphi
namespace Go.Proofs.Ytjidefnbancmfaa
open Go.AE Delphi
variable {tab : Tab}
def FaC (T : Nat → Prop) (w : AW) (f : Fa) (xs : List V) : Prop := ∃ v, xs = [.str f.name, v] ∧ ∃ cs, Rd T w v 3 f.args.length cs
theorem FaC.frm {T S : Nat → Prop} {w w' : AW} {l : Fa} {xs : List V} (h : FaC T w l xs) (hf : Frm S w w') (hd : ∀ x, T x → ¬ S x) : FaC T w' l xs := by
  obtain ⟨v, h1, cs, h2⟩ := h; exact ⟨v, h1, cs, h2.frm hf hd⟩
theorem FaC.one {T : Nat → Prop} {w : AW} {l : Fa} {xs : List V} (h : FaC T w l xs) : xs.length = 2 ∧ allOne xs = true := by
  obtain ⟨v, rfl, cs, h2⟩ := h
  refine ⟨rfl, ?_⟩
  rcases h2.inv with ⟨rfl, _⟩ | ⟨_, _, _, rfl, _⟩ <;> rfl
end Go.Proofs.Ytjidefnbancmfaa

/- check.Arities, whole. -/
set_option linter.unusedVariables false
set_option maxRecDepth 10000
set_option linter.unusedSimpArgs false
namespace Delphi
end Delphi
namespace Go.Proofs.Ytjidefnbancmfaa
open Go.AE Delphi
variable {tab : Tab}
theorem Al.cut {T : Nat → Prop} {w : AW} {b : Nat} {sh : Share} (h : Al T w b sh) : Al (fun x => T x ∧ x < w.next) w b sh := by
  rcases h with rfl | rfl | rfl | ⟨f, F, rfl, h1, h2, h3⟩
  · exact .inl rfl
  · exact .inr (.inl rfl)
  · exact .inr (.inr (.inl rfl))
  · exact .inr (.inr (.inr ⟨f, F, rfl, ⟨h1, h2⟩, h2, h3⟩))
theorem Rd.cut {T : Nat → Prop} {w : AW} {v : V} {esz n : Nat} {cs : List V} (h : Rd T w v esz n cs) : Rd (fun x => T x ∧ x < w.next) w v esz n cs := by
  cases h with
  | nil => exact .nil
  | blk hT hb hx ha hl hcs hc => exact .blk ⟨hT, hb⟩ hb hx (Al.cut ha) hl hcs hc
end Go.Proofs.Ytjidefnbancmfaa

/- The reference's Preds. -/
set_option linter.unusedVariables false
set_option maxRecDepth 10000
set_option linter.unusedSimpArgs false
namespace Delphi
open Go.AE
end Delphi
namespace Go.Proofs.Ytjidefnbancmfaa
open Go.AE Delphi
variable {tab : Tab}
def nmsC (L : Ps) : List V := L.map fun p => V.str p.1
def wdtC (L : Ps) : List V := L.map fun p => V.int .i64 p.2
/-- names and widths. -/
structure NW (aw w : AW) (nv wv : V) (L : Ps) (S1 S2 : Nat → Prop) : Prop where
  a : Bt S1 w nv 1 L.length (nmsC L)
  b : Bt S2 w wv 1 L.length (wdtC L)
  s1 : ∀ x, S1 x → aw.next ≤ x ∧ x < w.next ∧ ¬ S2 x
  s2 : ∀ x, S2 x → aw.next ≤ x ∧ x < w.next
  frm : Frm (fun _ => False) aw w
theorem NW.ext {aw w w2 : AW} {nv wv : V} {L : Ps} {S1 S2 : Nat → Prop} (h : NW aw w nv wv L S1 S2) (hf : Frm (fun _ => False) w w2) : NW aw w2 nv wv L S1 S2 :=
  ⟨h.a.frm hf fun _ _ h => h, h.b.frm hf fun _ _ h => h, fun x hx => by have h1 := h.s1 x hx; have := hf.next; exact ⟨by omega, by omega, h1.2.2⟩, fun x hx => by have h1 := h.s2 x hx; have := hf.next; exact ⟨by omega, by omega⟩, h.frm.tr hf⟩
end Go.Proofs.Ytjidefnbancmfaa

/- The reference's Preds, whole; Defined. -/
set_option linter.unusedVariables false
set_option maxRecDepth 10000
set_option linter.unusedSimpArgs false
namespace Go.Proofs.Ytjidefnbancmfaa
open Go.AE Delphi
variable {tab : Tab}
/-- a rule's literals in a slice of one's own. -/
structure LV (T : Nat → Prop) (aw w : AW) (lv : V) (r : Rl) (S1 S2 Tl : Nat → Prop) : Prop where
  rd : ∃ xss, Rd Tl w lv 3 (rAll r).length xss.flatten ∧ All2 (LtC T aw) (rAll r) xss
  sep : ∀ x, Tl x → x < w.next ∧ ¬ S1 x ∧ ¬ S2 x
theorem LV.at {T : Nat → Prop} {aw w : AW} {lv : V} {r : Rl} {S1 S2 Tl : Nat → Prop} (h : LV T aw w lv r S1 S2 Tl) {i : Nat} {x : Lt} (hx : (rAll r)[i]? = some x) : ∃ b o c u, lv = .slice b o (rAll r).length c ∧ w.load b (o + i * 3) 1 = some [.int .i64 (Int.ofNat x.kind)] ∧ w.load b (o + i * 3 + 1) 1 = some [.str x.name] ∧ w.load b (o + i * 3 + 2) 1 = some [u] ∧ lenV u = some x.args.length := by
  obtain ⟨xss, h1, h2⟩ := h.rd
  have hlt : i < (rAll r).length := (List.getElem?_eq_some_iff.1 hx).1
  have h3 : RdL (fun _ => LtC T aw) Tl w lv 3 (rAll r) := ⟨xss, h1, h2⟩
  rcases h3.inv (fun a xs hx => (LtC.one hx).1) with ⟨_, q2⟩ | ⟨b, o, c, rfl, _, _, _, hat⟩
  · rw [q2] at hlt; simp at hlt
  · obtain ⟨xs, ⟨u, rfl, hu⟩, hp⟩ := hat i x hx
    exact ⟨b, o, c, u, rfl, hp 0 1 (by omega), hp 1 1 (by omega), hp 2 1 (by omega), hu.lenV⟩
end Go.Proofs.Ytjidefnbancmfaa

/- The reference's Preds, whole; Defined. -/
set_option linter.unusedVariables false
set_option maxRecDepth 10000
set_option linter.unusedSimpArgs false
namespace Go.Proofs.Ytjidefnbancmfaa
open Go.AE Delphi
variable {tab : Tab}
end Go.Proofs.Ytjidefnbancmfaa

/- Defined, twice. -/
set_option linter.unusedVariables false
set_option maxRecDepth 10000
set_option linter.unusedSimpArgs false
namespace Delphi
def cDefined (rules : List Rl) (nm : List Nat) : Prop := ∃ r ∈ rules, r.head.name = nm
instance (rules : List Rl) (nm : List Nat) : Decidable (cDefined rules nm) := List.decidableBEx _ rules
end Delphi
namespace Go.Proofs.Ytjidefnbancmfaa
open Go.AE Delphi
variable {tab : Tab}
end Go.Proofs.Ytjidefnbancmfaa

/- How large a read program is; law 9's Rules. -/
set_option linter.unusedVariables false
set_option maxRecDepth 10000
set_option linter.unusedSimpArgs false
namespace Delphi
end Delphi
namespace Go.Proofs.Ytjidefnbancmfaa
open Go.AE Delphi
variable {tab : Tab}
/-- what is told of a law's beginning. -/
def Begins (tab : Tab) (f : Nat) : Prop := ∀ aw, CallR tab f [] aw (.bool true) aw
theorem begins_ok {f : Nat} (B : Begins tab f) {aw : AW} {K : V → AW → Prop} (h : K (.bool true) aw) : WF tab f [] aw K := ⟨_, _, B aw, h⟩
end Go.Proofs.Ytjidefnbancmfaa

/- CheckVars: its closures. -/
set_option linter.unusedVariables false
set_option maxRecDepth 10000
set_option linter.unusedSimpArgs false
namespace Delphi
/-- a number's place among n. -/
def vIx (n : Nat) (i : Int) : Nat := (i.tmod n).natAbs
def vTm (k : Nat) : Tm := ⟨1, [65 + k], 0⟩
theorem vIx_lt {n : Nat} {i : Int} (h : 0 < n) : vIx n i < n := by
  have h1 := Int.natAbs_tmod i (n : Int)
  unfold vIx
  rw [h1]
  exact Nat.mod_lt _ h
end Delphi
namespace Go.Proofs.Ytjidefnbancmfaa
open Go.AE Delphi
variable {tab : Tab}
theorem vIx_neg {n : Nat} {i : Int} (h : 0 < n) (hn : n ≤ 4) : (i.tmod (Int.ofNat n) < 0 → IntKind.wrap .i64 (0 - i.tmod (Int.ofNat n)) = Int.ofNat (vIx n i)) ∧ (¬ i.tmod (Int.ofNat n) < 0 → i.tmod (Int.ofNat n) = Int.ofNat (vIx n i)) := by
  have h1 := vIx_lt (i := i) h
  unfold vIx at h1 ⊢
  have e : (n : Int) = Int.ofNat n := rfl
  rw [e] at h1 ⊢
  generalize i.tmod (Int.ofNat n) = m at h1 ⊢
  have e2 : Int.ofNat m.natAbs = (m.natAbs : Int) := rfl
  rw [e2]
  constructor
  · intro h2
    rw [wrap_id] <;> omega
  · intro h2
    omega
/-- the i-th variable. -/
theorem cv1_ok (C : Codes tab) {aw : AW} {b n : Nat} {i : Int} {K : V → AW → Prop} (hb : aw.load b 0 1 = some [.int .i64 (Int.ofNat n)]) (hlt : b < aw.next) (h0 : 0 < n) (h4 : n ≤ 4)
    (h : ∀ w, Frm (fun _ => False) aw w → K (.agg (tmC (vTm (vIx n i)))) w) : WF tab n_law9_CheckVars_1 [.int .i64 i, .ptr b 0] aw K := by
  refine WF_of C.c_law9_CheckVars_1 rfl ?_
  have ff := fresh_frm (S := fun _ => False) aw [V.int .i64 0, V.str [], V.int .i64 0]
  have c1 := fresh_cb aw [V.int .i64 0, V.str [], V.int .i64 0]
  have hb1 : (aw.fresh [V.int .i64 0, V.str [], V.int .i64 0]).load b 0 1 = some [.int .i64 (Int.ofNat n)] := by
    have : (aw.fresh [V.int .i64 0, V.str [], V.int .i64 0]).heap.get b = aw.heap.get b := AE.T.get_put_ne (by omega)
    rw [← hb]; simp only [AW.load, this]; rfl
  obtain ⟨g1, g2⟩ := vIx_neg (i := i) h0 h4
  have hl := vIx_lt (i := i) h0
  have hne : ¬ Int.ofNat n = 0 := by have : Int.ofNat n = (n : Int) := rfl; omega
  obtain ⟨k, hk⟩ : ∃ k, k = vIx n i := ⟨_, rfl⟩
  rw [← hk] at g1 g2 hl h
  have hk4 : k < 4 := by omega
  have hc : IntKind.wrap .u8 (IntKind.wrap .i64 (65 + Int.ofNat k)) = Int.ofNat (65 + k) := by
    have : k = 0 ∨ k = 1 ∨ k = 2 ∨ k = 3 := by omega
    rcases this with rfl | rfl | rfl | rfl <;> rfl
  have hby : bytesV [V.int .u8 (Int.ofNat (65 + k))] = some [65 + k] := by
    have : k = 0 ∨ k = 1 ∨ k = 2 ∨ k = 3 := by omega
    rcases this with rfl | rfl | rfl | rfl <;> rfl
  generalize hw1 : aw.fresh [V.int .i64 0, V.str [], V.int .i64 0] = w1 at ff c1 hb1
  have f2 := fresh_frm (S := fun _ => False) w1 [V.int .u8 (Int.ofNat (65 + k))]
  have c2 := c1.frm f2 fun h => h
  have el := elems_fresh (w := w1) (esz := 1) (n := 1) (cs := [V.int .u8 (Int.ofNat (65 + k))]) (c := .known 1) (by omega) rfl
  have hov : over [V.int .u8 0] 0 [V.int .u8 (Int.ofNat (65 + k))] = some [V.int .u8 (Int.ofNat (65 + k))] := rfl
  have hov2 : over [V.int .i64 0, V.str [], V.int .i64 0] 0 [V.int .i64 1] = some [V.int .i64 1, V.str [], V.int .i64 0] := rfl
  have hov3 : over [V.int .i64 1, V.str [], V.int .i64 0] 1 [V.str [65 + k]] = some [V.int .i64 1, V.str [65 + k], V.int .i64 0] := rfl
  have st := c2.setAll (vs := tmC (vTm k)) rfl rfl
  have ld : ((w1.fresh [V.int .u8 (Int.ofNat (65 + k))]).put aw.next (tmC (vTm k))).load aw.next 0 3 = some (tmC (vTm k)) := (put_cb c2.lt).all rfl
  have fr : Frm (fun _ => False) aw ((w1.fresh [V.int .u8 (Int.ofNat (65 + k))]).put aw.next (tmC (vTm k))) := (ff.tr f2).out (Nat.le_refl _) rfl
  have st : (w1.fresh [V.int .u8 (Int.ofNat (65 + k))]).store aw.next 0 [V.int .i64 1, V.str [65 + k], V.int .i64 0] = some ((w1.fresh [V.int .u8 (Int.ofNat (65 + k))]).put aw.next (tmC (vTm k))) := st
  by_cases hneg : i.tmod (Int.ofNat n) < 0
  · refine WS_run 1000 (by simp only [go_sem, eRun_exit, Nat.reduceAdd, Nat.reduceLT, Nat.reduceEqDiff, reduceIte, reduceCtorEq, Int.reduceBEq, Int.reduceBNe, Int.reduceLT, Int.reduceLE, Int.reduceGT, Int.reduceGE, Int.reduceEq, Int.reduceAdd, Int.reduceSub, Int.reduceMul, Nat.reduceMul, Nat.reduceSub, Nat.reduceLeDiff, k_law9_CheckVars_1, k_law9_CheckVars_1_p2, k_law9_CheckVars_1_p1, k_law9_CheckVars_1_p0, hw1, hb1, hne, hneg, g1 hneg, hc, evParts, fillV, hov, hov2, hov3, el, hby, st, List.length_cons, List.length_nil]; rfl) ?_
    refine WS_ret ⟨_, by simp only [go_sem, eRun_exit, Nat.reduceAdd, Nat.reduceLT, Nat.reduceEqDiff, reduceIte, reduceCtorEq, Int.reduceBEq, Int.reduceBNe, Int.reduceLT, Int.reduceLE, Int.reduceGT, Int.reduceGE, Int.reduceEq, Int.reduceAdd, Int.reduceSub, Int.reduceMul, Nat.reduceMul, Nat.reduceSub, Nat.reduceLeDiff, k_law9_CheckVars_1, ld]; rfl, ?_⟩
    exact h _ fr
  · refine WS_run 1000 (by simp only [go_sem, eRun_exit, Nat.reduceAdd, Nat.reduceLT, Nat.reduceEqDiff, reduceIte, reduceCtorEq, Int.reduceBEq, Int.reduceBNe, Int.reduceLT, Int.reduceLE, Int.reduceGT, Int.reduceGE, Int.reduceEq, Int.reduceAdd, Int.reduceSub, Int.reduceMul, Nat.reduceMul, Nat.reduceSub, Nat.reduceLeDiff, k_law9_CheckVars_1, k_law9_CheckVars_1_p2, k_law9_CheckVars_1_p1, k_law9_CheckVars_1_p0, hw1, hb1, hne, hneg, g2 hneg, hc, evParts, fillV, hov, hov2, hov3, el, hby, st, List.length_cons, List.length_nil]; rfl) ?_
    refine WS_ret ⟨_, by simp only [go_sem, eRun_exit, Nat.reduceAdd, Nat.reduceLT, Nat.reduceEqDiff, reduceIte, reduceCtorEq, Int.reduceBEq, Int.reduceBNe, Int.reduceLT, Int.reduceLE, Int.reduceGT, Int.reduceGE, Int.reduceEq, Int.reduceAdd, Int.reduceSub, Int.reduceMul, Nat.reduceMul, Nat.reduceSub, Nat.reduceLeDiff, k_law9_CheckVars_1, ld]; rfl, ?_⟩
    exact h _ fr
/-- is it bound. -/
theorem cv2_ok (C : Codes tab) {T : Nat → Prop} {aw : AW} {b b4 n : Nat} {i : Int} {av : V} {bs : List Bool} {K : V → AW → Prop} (hb : aw.load b 0 1 = some [.int .i64 (Int.ofNat n)]) (hb4 : aw.load b4 0 1 = some [av]) (ha : Rd T aw av 1 bs.length (bs.map V.bool)) (hn : n ≤ bs.length) (h0 : 0 < n) (h4 : n ≤ 4)
    (h : ∀ x, bs[vIx n i]? = some x → K (.bool x) aw) : WF tab n_law9_CheckVars_2 [.int .i64 i, .ptr b 0, .ptr b4 0] aw K := by
  refine WF_of C.c_law9_CheckVars_2 rfl ?_
  obtain ⟨g1, g2⟩ := vIx_neg (i := i) h0 h4
  have hl := vIx_lt (i := i) h0
  have hne : ¬ Int.ofNat n = 0 := by have : Int.ofNat n = (n : Int) := rfl; omega
  obtain ⟨x, hx⟩ : ∃ x, bs[vIx n i]? = some x := ⟨_, List.getElem?_eq_getElem (by omega)⟩
  have h := h x hx
  generalize vIx n i = k at g1 g2 hl hx
  rcases ha.inv with ⟨_, q, _⟩ | ⟨ba, o, c, rfl, hB⟩
  · omega
  have hlt : k < bs.length := by omega
  have l1 : aw.load ba (o + k) 1 = some [.bool x] := hB.cell (by omega) (by rw [List.getElem?_map, hx]; rfl)
  by_cases hneg : i.tmod (Int.ofNat n) < 0
  · refine WS_run 1000 (by simp only [go_sem, eRun_exit, Nat.reduceAdd, Nat.reduceLT, Nat.reduceEqDiff, reduceIte, reduceCtorEq, Int.reduceBEq, Int.reduceBNe, Int.reduceLT, Int.reduceLE, Int.reduceGT, Int.reduceGE, Int.reduceEq, Int.reduceAdd, Int.reduceSub, Int.reduceMul, Nat.reduceMul, Nat.reduceSub, Nat.reduceLeDiff, k_law9_CheckVars_2, k_law9_CheckVars_2_p1, k_law9_CheckVars_2_p0, hb, hb4, hne, hneg, g1 hneg, hlt, Nat.mul_one, l1]; rfl) ?_
    refine WS_ret ⟨_, by simp only [go_sem, eRun_exit, Nat.reduceAdd, Nat.reduceLT, Nat.reduceEqDiff, reduceIte, reduceCtorEq, Int.reduceBEq, Int.reduceBNe, Int.reduceLT, Int.reduceLE, Int.reduceGT, Int.reduceGE, Int.reduceEq, Int.reduceAdd, Int.reduceSub, Int.reduceMul, Nat.reduceMul, Nat.reduceSub, Nat.reduceLeDiff, k_law9_CheckVars_2]; rfl, ?_⟩
    exact h
  · refine WS_run 1000 (by simp only [go_sem, eRun_exit, Nat.reduceAdd, Nat.reduceLT, Nat.reduceEqDiff, reduceIte, reduceCtorEq, Int.reduceBEq, Int.reduceBNe, Int.reduceLT, Int.reduceLE, Int.reduceGT, Int.reduceGE, Int.reduceEq, Int.reduceAdd, Int.reduceSub, Int.reduceMul, Nat.reduceMul, Nat.reduceSub, Nat.reduceLeDiff, k_law9_CheckVars_2, k_law9_CheckVars_2_p1, k_law9_CheckVars_2_p0, hb, hb4, hne, hneg, g2 hneg, hlt, Nat.mul_one, l1]; rfl) ?_
    refine WS_ret ⟨_, by simp only [go_sem, eRun_exit, Nat.reduceAdd, Nat.reduceLT, Nat.reduceEqDiff, reduceIte, reduceCtorEq, Int.reduceBEq, Int.reduceBNe, Int.reduceLT, Int.reduceLE, Int.reduceGT, Int.reduceGE, Int.reduceEq, Int.reduceAdd, Int.reduceSub, Int.reduceMul, Nat.reduceMul, Nat.reduceSub, Nat.reduceLeDiff, k_law9_CheckVars_2]; rfl, ?_⟩
    exact h
end Go.Proofs.Ytjidefnbancmfaa

/- CheckVars: its rule. -/
set_option linter.unusedVariables false
set_option maxRecDepth 10000
set_option linter.unusedSimpArgs false
namespace Delphi
def cvLt (i : Nat) : Lt := ⟨1, [98], [vTm i]⟩
/-- the body, so far. -/
def cvB (bs : List Bool) : Nat → List Lt
  | 0 => []
  | i + 1 => cvB bs i ++ (if bs[i]? = some true then [cvLt i] else [])
theorem cvB_len (bs : List Bool) : ∀ i, (cvB bs i).length ≤ i
  | 0 => by simp [cvB]
  | i + 1 => by
    have := cvB_len bs i
    simp only [cvB, List.length_append]
    split <;> simp <;> omega
end Delphi
namespace Go.Proofs.Ytjidefnbancmfaa
open Go.AE Delphi
variable {tab : Tab}
theorem all2_app {α β : Type} {r : α → β → Prop} : ∀ {l l' : List α} {m m' : List β}, All2 r l m → All2 r l' m' → All2 r (l ++ l') (m ++ m')
  | [], _, _, _, .nil, h => h
  | _ :: _, _, _, _, .cons h1 h2, h => .cons h1 (all2_app h2 h)
theorem allOne_flat {α : Type} {r : α → List V → Prop} : ∀ {l : List α} {xss : List (List V)}, All2 r l xss → (∀ a xs, r a xs → allOne xs = true) → allOne xss.flatten = true
  | [], _, .nil, _ => rfl
  | _ :: _, _, .cons h1 h2, h => by
    rw [List.flatten_cons, allOne_iff]
    intro v hv
    rcases List.mem_append.1 hv with hv | hv
    · exact allOne_iff.1 (h _ _ h1) v hv
    · exact allOne_iff.1 (allOne_flat h2 h) v hv
structure CvS (aw w : AW) (b4 b10 b12 : Nat) (av : V) (bs : List Bool) (n : Nat) (hv : V) (hd : Nat) (lits : List Lt) (bv : V) (S T : Nat → Prop) (xss : List (List V)) : Prop where
  frm : Frm (fun _ => False) aw w
  a4 : CB w b4 [av]
  a10 : CB w b10 [.int .i64 (Int.ofNat n)]
  rule : CB w b12 [.int .i64 1, .str [104], hv, bv]
  head : Rd T w hv 3 1 (tmsC [vTm hd])
  args : Rd (fun x => x < aw.next) w av 1 bs.length (bs.map V.bool)
  buf : Bt S w bv 3 lits.length xss.flatten
  lits : All2 (LtC T w) lits xss
  ge : aw.next ≤ b4 ∧ b4 < b10 ∧ b10 < b12
  sepS : ∀ x, S x → aw.next ≤ x ∧ x < w.next ∧ x ≠ b4 ∧ x ≠ b10 ∧ x ≠ b12 ∧ ¬ T x
  sepT : ∀ x, T x → aw.next ≤ x ∧ x < w.next ∧ x ≠ b4 ∧ x ≠ b10 ∧ x ≠ b12
theorem CvS.ext {aw w w2 : AW} {b4 b10 b12 : Nat} {av : V} {bs : List Bool} {n : Nat} {hv : V} {hd : Nat} {lits : List Lt} {bv : V} {S T : Nat → Prop} {xss : List (List V)} (h : CvS aw w b4 b10 b12 av bs n hv hd lits bv S T xss) (hf : Frm (fun _ => False) w w2) : CvS aw w2 b4 b10 b12 av bs n hv hd lits bv S T xss :=
  have nx := hf.next
  ⟨h.frm.tr hf, h.a4.frm hf fun h => h, h.a10.frm hf fun h => h, h.rule.frm hf fun h => h, h.head.frm hf fun _ _ h => h, h.args.frm hf fun _ _ h => h, h.buf.frm hf fun _ _ h => h, h.lits.imp fun _ _ hl => hl.frm hf fun _ _ h => h, h.ge,
    fun x hx => by obtain ⟨y1, y2, y3⟩ := h.sepS x hx; exact ⟨y1, by omega, y3⟩, fun x hx => by obtain ⟨y1, y2, y3⟩ := h.sepT x hx; exact ⟨y1, by omega, y3⟩⟩
theorem CvS.grow {aw w : AW} {b4 b10 b12 : Nat} {av : V} {bs : List Bool} {n k : Nat} {hv : V} {hd : Nat} {lits new : List Lt} {bv : V} {S T Tn : Nat → Prop} {xss nxs : List (List V)} (h : CvS aw w b4 b10 b12 av bs n hv hd lits bv S T xss) (hn : All2 (LtC Tn w) new nxs) (hk : new.length = k) (hl : lits.length ≤ 10) (hk4 : k ≤ 4)
    (hTn : ∀ x, Tn x → aw.next ≤ x ∧ x < w.next ∧ x ≠ b4 ∧ x ≠ b10 ∧ x ≠ b12 ∧ ¬ S x) :
    ∃ v' w5 S5, w.appendV 3 48 bv k nxs.flatten = some (v', w5) ∧ w5.store b12 3 [v'] = some (w5.put b12 [.int .i64 1, .str [104], hv, v']) ∧ v'.cells = [v'] ∧ CvS aw (w5.put b12 [.int .i64 1, .str [104], hv, v']) b4 b10 b12 av bs n hv hd (lits ++ new) v' S5 (fun x => T x ∨ Tn x) (xss ++ nxs) := by
  have hfl : nxs.flatten.length = k * 3 := by rw [flat_length (fun a xs hx => (LtC.one hx).1) hn, hk]
  have hone : allOne nxs.flatten = true := allOne_flat hn fun a xs hx => (LtC.one hx).2
  obtain ⟨v', w5, S5, u1, u2, u3, u4⟩ := h.buf.addN (news := nxs.flatten) (k := k) (bytes := 48) (by omega) hfl hone (by omega) (by omega)
  obtain ⟨g1, g2, g3⟩ := h.ge
  have n4 : ¬ S b4 := fun hx => (h.sepS _ hx).2.2.1 rfl
  have n10 : ¬ S b10 := fun hx => (h.sepS _ hx).2.2.2.1 rfl
  have n12 : ¬ S b12 := fun hx => (h.sepS _ hx).2.2.2.2.1 rfl
  have nA : ∀ x, x < aw.next → ¬ S x := fun x hx hs => by have := (h.sepS _ hs).1; omega
  have nT : ∀ x, T x → ¬ S x := fun x hx hs => (h.sepS _ hs).2.2.2.2.2 hx
  have nTn : ∀ x, Tn x → ¬ S x := fun x hx => (hTn x hx).2.2.2.2.2
  have pf : Frm (fun b => b = b12) w5 (w5.put b12 [.int .i64 1, .str [104], hv, v']) := put_frm
  have r5 := h.rule.frm u3 n12
  have l4 := h.a4.lt
  have l10 := h.a10.lt
  have l12 := h.rule.lt
  have sS5 : ∀ x, S5 x → aw.next ≤ x ∧ x < w5.next ∧ x ≠ b4 ∧ x ≠ b10 ∧ x ≠ b12 ∧ ¬ (T x ∨ Tn x) := by
    intro x hx
    obtain ⟨m1, m2⟩ := u4 x hx
    have := h.frm.next
    rcases m2 with m2 | m2
    · obtain ⟨y1, y2, y3, y4, y5, y6⟩ := h.sepS x m2
      exact ⟨y1, m1, y3, y4, y5, fun h => h.elim y6 fun h => nTn x h m2⟩
    · refine ⟨by omega, m1, by omega, by omega, by omega, ?_⟩
      rintro (h1 | h1)
      · have := (h.sepT x h1).2.1; omega
      · have := (hTn x h1).2.1; omega
  have sTa : ∀ x, T x ∨ Tn x → aw.next ≤ x ∧ x < w.next ∧ x ≠ b4 ∧ x ≠ b10 ∧ x ≠ b12 := by
    rintro x (h1 | h1)
    · exact h.sepT x h1
    · obtain ⟨y1, y2, y3, y4, y5, _⟩ := hTn x h1; exact ⟨y1, y2, y3, y4, y5⟩
  have nx := u3.next
  have lits2 : All2 (LtC (fun x => T x ∨ Tn x) w) (lits ++ new) (xss ++ nxs) := all2_app (h.lits.imp fun _ _ hl => hl.mono fun _ h => .inl h) (hn.imp fun _ _ hl => hl.mono fun _ h => .inr h)
  refine ⟨v', w5, S5, u1, r5.set (i := 3) (v := v') (by simp) u2.one.1, u2.one.2, ?_, (h.a4.frm u3 n4).frm pf (by show ¬ b4 = b12; omega), (h.a10.frm u3 n10).frm pf (by show ¬ b10 = b12; omega), put_cb r5.lt, ?_, (h.args.frm u3 nA).frm pf (by show ∀ x, x < aw.next → ¬ x = b12; omega), ?_, lits2.imp fun l ys hl => (hl.frm u3 fun x hx => hx.elim (nT x) (nTn x)).frm pf fun x hx => (sTa x hx).2.2.2.2, h.ge, fun x hx => sS5 x hx, fun x hx => ?_⟩
  · exact (h.frm.trans u3 (fun _ _ h => h) fun x hx hs => nA x hx hs).out (by omega) rfl
  · exact (((h.head.frm u3 nT).frm pf fun x hx => (h.sepT x hx).2.2.2.2)).mono fun _ h => .inl h
  · rw [List.length_append, hk, List.flatten_append]
    exact u2.frm pf fun x hx => (sS5 x hx).2.2.2.2.1
  · obtain ⟨y1, y2, y3⟩ := sTa x hx
    exact ⟨y1, by have : (w5.put b12 [.int .i64 1, .str [104], hv, v']).next = w5.next := rfl; omega, y3⟩
end Go.Proofs.Ytjidefnbancmfaa

/- CheckVars: the law. -/
set_option linter.unusedVariables false
set_option maxRecDepth 10000
set_option linter.unusedSimpArgs false
namespace Delphi
theorem mem_cvB {bs : List Bool} {x : Lt} : ∀ {n : Nat}, x ∈ cvB bs n ↔ ∃ i, i < n ∧ bs[i]? = some true ∧ x = cvLt i
  | 0 => by simp [cvB]
  | n + 1 => by
    simp only [cvB, List.mem_append, mem_cvB (n := n)]
    constructor
    · rintro (⟨i, h1, h2⟩ | h)
      · exact ⟨i, by omega, h2⟩
      · split at h
        · rename_i hb; exact ⟨n, by omega, hb, by simpa using h⟩
        · simp at h
    · rintro ⟨i, h1, h2, h3⟩
      by_cases hi : i < n
      · exact .inl ⟨i, hi, h2, h3⟩
      · have : i = n := by omega
        subst this; right; rw [if_pos h2]; simpa using h3
def cvRule (bs : List Bool) (n h g l : Nat) : Rl := ⟨⟨1, [104], [vTm h]⟩, cvB bs n ++ [⟨2, [110], [vTm g]⟩, ⟨5, [], [vTm l, ⟨3, [], 3⟩]⟩]⟩
theorem cv_bound {bs : List Bool} {n h g l k : Nat} (hk : k < n) : [65 + k] ∈ rBound (cvRule bs n h g l) ↔ bs[k]? = some true := by
  rw [mem_rBound]
  constructor
  · rintro ⟨x, hx, h1, t, ht, h2, h3⟩
    simp only [cvRule, List.mem_append, mem_cvB, List.mem_cons, List.not_mem_nil, or_false] at hx
    rcases hx with ⟨i, hi, hb, rfl⟩ | rfl | rfl
    · simp only [cvLt, List.mem_singleton] at ht
      subst ht
      simp only [vTm, List.cons.injEq, and_true] at h3
      have : i = k := by omega
      exact this ▸ hb
    · simp at h1
    · simp at h1
  · intro hb
    exact ⟨cvLt k, by simp only [cvRule, List.mem_append, mem_cvB]; exact .inl ⟨k, hk, hb, rfl⟩, rfl, vTm k, by simp [cvLt], rfl, rfl⟩
theorem cv_need {bs : List Bool} {n h g l : Nat} {v : List Nat} : v ∈ rNeed (cvRule bs n h g l) ↔ v = [65 + h] ∨ v = [65 + g] ∨ v = [65 + l] := by
  rw [mem_rNeed]
  constructor
  · rintro (⟨t, ht, h1, rfl⟩ | ⟨x, hx, h1, t, ht, h2, rfl⟩)
    · simp only [cvRule, List.mem_singleton] at ht
      subst ht; exact .inl rfl
    · simp only [cvRule, List.mem_append, mem_cvB, List.mem_cons, List.not_mem_nil, or_false] at hx
      rcases hx with ⟨i, hi, hb, rfl⟩ | rfl | rfl
      · exact absurd rfl h1
      · simp only [List.mem_singleton] at ht
        subst ht; exact .inr (.inl rfl)
      · simp only [List.mem_cons, List.not_mem_nil, or_false] at ht
        rcases ht with rfl | rfl
        · exact .inr (.inr rfl)
        · simp at h2
  · rintro (rfl | rfl | rfl)
    · exact .inl ⟨vTm h, by simp [cvRule], rfl, rfl⟩
    · exact .inr ⟨⟨2, [110], [vTm g]⟩, by simp [cvRule], by simp, vTm g, by simp, rfl, rfl⟩
    · exact .inr ⟨⟨5, [], [vTm l, ⟨3, [], 3⟩]⟩, by simp [cvRule], by simp, vTm l, by simp, rfl, rfl⟩
theorem cv_safe {bs : List Bool} {n h g l : Nat} {x y z : Bool} (hh : h < n) (hg : g < n) (hl : l < n) (ex : bs[h]? = some x) (ey : bs[g]? = some y) (ez : bs[l]? = some z) : cSafe (cvRule bs n h g l) = (x && y && z) := by
  rw [Bool.eq_iff_iff]
  simp only [cSafe, List.all_eq_true, decide_eq_true_eq, cv_need, Bool.and_eq_true]
  constructor
  · intro hv
    have a := (cv_bound hh).1 (hv [65 + h] (.inl rfl))
    have b := (cv_bound hg).1 (hv [65 + g] (.inr (.inl rfl)))
    have c := (cv_bound hl).1 (hv [65 + l] (.inr (.inr rfl)))
    rw [ex] at a; rw [ey] at b; rw [ez] at c
    exact ⟨⟨Option.some.inj a, Option.some.inj b⟩, Option.some.inj c⟩
  · rintro ⟨⟨rfl, rfl⟩, rfl⟩ v (rfl | rfl | rfl)
    · exact (cv_bound hh).2 ex
    · exact (cv_bound hg).2 ey
    · exact (cv_bound hl).2 ez
theorem cv_bd {bs : List Bool} {n h g l : Nat} (hn : n ≤ 4) : RBd (cvRule bs n h g l) := by
  refine ⟨by simp [cvRule], ?_, ?_⟩
  · have := cvB_len bs n
    simp only [cvRule, List.length_append, List.length_cons, List.length_nil]; omega
  · intro x hx
    simp only [cvRule, List.mem_append, mem_cvB, List.mem_cons, List.not_mem_nil, or_false] at hx
    rcases hx with ⟨i, hi, hb, rfl⟩ | rfl | rfl <;> simp [cvLt]
end Delphi
namespace Go.Proofs.Ytjidefnbancmfaa
open Go.AE Delphi
variable {tab : Tab}
structure CvF (f : Fr) (b4 b10 b12 : Nat) (hd ng ls : Int) : Prop where
  f1 : f.get 1 = some (.int .i64 hd)
  f2 : f.get 2 = some (.int .i64 ng)
  f3 : f.get 3 = some (.int .i64 ls)
  f4 : f.get 4 = some (.ptr b4 0)
  f10 : f.get 10 = some (.ptr b10 0)
  f11 : f.get 11 = some (.func (.func n_law9_CheckVars_1) [] [.ptr b10 0])
  f12 : f.get 12 = some (.ptr b12 0)
def CvI (aw : AW) (b4 b10 b12 : Nat) (av : V) (bs : List Bool) (n : Nat) (hv : V) (hd ng ls : Int) (q : Nat) (f : Fr) (w : AW) : Prop :=
  ∃ i bv S T xss, CvF f b4 b10 b12 hd ng ls ∧ f.get 13 = some (.int .i64 (Int.ofNat i)) ∧ i ≤ n ∧ q = n - i ∧ CvS aw w b4 b10 b12 av bs n hv (vIx n hd) (cvB bs i) bv S T xss
theorem vIx_id {n i : Nat} (h : i < n) : vIx n (Int.ofNat i) = i := by
  have : (Int.ofNat i).tmod (n : Int) = (i : Int) := Int.tmod_eq_of_lt (by simp) (by simp; omega)
  unfold vIx
  rw [this]; rfl
/-- the loop. -/
theorem cv_loop (C : Codes tab) {aw w : AW} {b4 b10 b12 n : Nat} {av hv : V} {bs : List Bool} {hd ng ls : Int} {q : Nat} {f : Fr} {st : List SI} {Q : Fr → AW → Prop} (hnb : n ≤ bs.length) (h4 : n ≤ 4)
    (hI : CvI aw b4 b10 b12 av bs n hv hd ng ls q f w) (ih : ∀ n' f' w', n' < q → CvI aw b4 b10 b12 av bs n hv hd ng ls n' f' w' → WS tab (.code (.loop k_law9_CheckVars_p4) :: .endB 0 :: st) f' w' Q)
    (out : ∀ s' f' w', (∃ bv S T xss, CvF f' b4 b10 b12 hd ng ls ∧ CvS aw w' b4 b10 b12 av bs n hv (vIx n hd) (cvB bs n) bv S T xss) → popTo 0 s' = some st → WS tab (.code (.exit 0) :: s') f' w' Q) : WS tab (.code k_law9_CheckVars_p4 :: .code (.loop k_law9_CheckVars_p4) :: .endB 0 :: st) f w Q := by
  obtain ⟨i, bv, S, T, xss, ⟨f1, f2, f3, f4, f10, f11, f12⟩, f13, hi, rfl, hA⟩ := hI
  have l10 : w.load b10 0 1 = some [.int .i64 (Int.ofNat n)] := hA.a10.load 0 1
  by_cases hlt : i < n
  case neg =>
    refine WS_runB 1000 (by simp only [go_sem, Nat.reduceAdd, Nat.reduceLT, Nat.reduceEqDiff, reduceIte, reduceCtorEq, Int.reduceBEq, Int.reduceBNe, Int.reduceLT, Int.reduceLE, Int.reduceGT, Int.reduceGE, Int.reduceEq, Int.reduceAdd, Int.reduceSub, Int.reduceMul, Nat.reduceMul, Nat.reduceSub, Nat.reduceLeDiff, k_law9_CheckVars_p4, f10, f13, l10, hlt]; rfl) ?_
    have e : i = n := by omega
    subst e
    exact out _ _ _ ⟨bv, S, T, xss, ⟨(by simp only [go_sem, eRun_exit, Nat.reduceAdd, Nat.reduceLT, Nat.reduceEqDiff, reduceIte, reduceCtorEq, Int.reduceBEq, Int.reduceBNe, Int.reduceLT, Int.reduceLE, Int.reduceGT, Int.reduceGE, Int.reduceEq, Int.reduceAdd, Int.reduceSub, Int.reduceMul, Nat.reduceMul, Nat.reduceSub, Nat.reduceLeDiff, f1] <;> rfl), (by simp only [go_sem, eRun_exit, Nat.reduceAdd, Nat.reduceLT, Nat.reduceEqDiff, reduceIte, reduceCtorEq, Int.reduceBEq, Int.reduceBNe, Int.reduceLT, Int.reduceLE, Int.reduceGT, Int.reduceGE, Int.reduceEq, Int.reduceAdd, Int.reduceSub, Int.reduceMul, Nat.reduceMul, Nat.reduceSub, Nat.reduceLeDiff, f2] <;> rfl), (by simp only [go_sem, eRun_exit, Nat.reduceAdd, Nat.reduceLT, Nat.reduceEqDiff, reduceIte, reduceCtorEq, Int.reduceBEq, Int.reduceBNe, Int.reduceLT, Int.reduceLE, Int.reduceGT, Int.reduceGE, Int.reduceEq, Int.reduceAdd, Int.reduceSub, Int.reduceMul, Nat.reduceMul, Nat.reduceSub, Nat.reduceLeDiff, f3] <;> rfl), (by simp only [go_sem, eRun_exit, Nat.reduceAdd, Nat.reduceLT, Nat.reduceEqDiff, reduceIte, reduceCtorEq, Int.reduceBEq, Int.reduceBNe, Int.reduceLT, Int.reduceLE, Int.reduceGT, Int.reduceGE, Int.reduceEq, Int.reduceAdd, Int.reduceSub, Int.reduceMul, Nat.reduceMul, Nat.reduceSub, Nat.reduceLeDiff, f4] <;> rfl), (by simp only [go_sem, eRun_exit, Nat.reduceAdd, Nat.reduceLT, Nat.reduceEqDiff, reduceIte, reduceCtorEq, Int.reduceBEq, Int.reduceBNe, Int.reduceLT, Int.reduceLE, Int.reduceGT, Int.reduceGE, Int.reduceEq, Int.reduceAdd, Int.reduceSub, Int.reduceMul, Nat.reduceMul, Nat.reduceSub, Nat.reduceLeDiff, f10] <;> rfl), (by simp only [go_sem, eRun_exit, Nat.reduceAdd, Nat.reduceLT, Nat.reduceEqDiff, reduceIte, reduceCtorEq, Int.reduceBEq, Int.reduceBNe, Int.reduceLT, Int.reduceLE, Int.reduceGT, Int.reduceGE, Int.reduceEq, Int.reduceAdd, Int.reduceSub, Int.reduceMul, Nat.reduceMul, Nat.reduceSub, Nat.reduceLeDiff, f11] <;> rfl), (by simp only [go_sem, eRun_exit, Nat.reduceAdd, Nat.reduceLT, Nat.reduceEqDiff, reduceIte, reduceCtorEq, Int.reduceBEq, Int.reduceBNe, Int.reduceLT, Int.reduceLE, Int.reduceGT, Int.reduceGE, Int.reduceEq, Int.reduceAdd, Int.reduceSub, Int.reduceMul, Nat.reduceMul, Nat.reduceSub, Nat.reduceLeDiff, f12] <;> rfl)⟩, hA⟩ rfl
  have hwr : IntKind.wrap .i64 (Int.ofNat i + 1) = Int.ofNat (i + 1) := wrap_succ (by omega)
  have l4 : w.load b4 0 1 = some [av] := hA.a4.load 0 1
  obtain ⟨x, hx⟩ : ∃ x, bs[i]? = some x := ⟨_, List.getElem?_eq_getElem (by omega)⟩
  have hArgs := hA.args
  rcases hArgs.inv with ⟨_, qq, _⟩ | ⟨ba, o, c, rfl, hB⟩
  · omega
  have hltb : i < bs.length := by omega
  have l1 : w.load ba (o + i) 1 = some [.bool x] := hB.cell (by omega) (by rw [List.getElem?_map, hx]; rfl)
  cases x with
  | false =>
    have e : cvB bs (i + 1) = cvB bs i := by simp [cvB, hx]
    refine WS_run 1000 (by simp only [go_sem, eRun_exit, Nat.reduceAdd, Nat.reduceLT, Nat.reduceEqDiff, reduceIte, reduceCtorEq, Int.reduceBEq, Int.reduceBNe, Int.reduceLT, Int.reduceLE, Int.reduceGT, Int.reduceGE, Int.reduceEq, Int.reduceAdd, Int.reduceSub, Int.reduceMul, Nat.reduceMul, Nat.reduceSub, Nat.reduceLeDiff, k_law9_CheckVars_p4, k_law9_CheckVars_p3, f4, f10, f13, l10, l4, hlt, hltb, Nat.mul_one, l1, hwr]; rfl) ?_
    exact ih _ _ _ (by omega) ⟨i + 1, bv, S, T, xss, ⟨(by simp only [go_sem, eRun_exit, Nat.reduceAdd, Nat.reduceLT, Nat.reduceEqDiff, reduceIte, reduceCtorEq, Int.reduceBEq, Int.reduceBNe, Int.reduceLT, Int.reduceLE, Int.reduceGT, Int.reduceGE, Int.reduceEq, Int.reduceAdd, Int.reduceSub, Int.reduceMul, Nat.reduceMul, Nat.reduceSub, Nat.reduceLeDiff, f1] <;> rfl), (by simp only [go_sem, eRun_exit, Nat.reduceAdd, Nat.reduceLT, Nat.reduceEqDiff, reduceIte, reduceCtorEq, Int.reduceBEq, Int.reduceBNe, Int.reduceLT, Int.reduceLE, Int.reduceGT, Int.reduceGE, Int.reduceEq, Int.reduceAdd, Int.reduceSub, Int.reduceMul, Nat.reduceMul, Nat.reduceSub, Nat.reduceLeDiff, f2] <;> rfl), (by simp only [go_sem, eRun_exit, Nat.reduceAdd, Nat.reduceLT, Nat.reduceEqDiff, reduceIte, reduceCtorEq, Int.reduceBEq, Int.reduceBNe, Int.reduceLT, Int.reduceLE, Int.reduceGT, Int.reduceGE, Int.reduceEq, Int.reduceAdd, Int.reduceSub, Int.reduceMul, Nat.reduceMul, Nat.reduceSub, Nat.reduceLeDiff, f3] <;> rfl), (by simp only [go_sem, eRun_exit, Nat.reduceAdd, Nat.reduceLT, Nat.reduceEqDiff, reduceIte, reduceCtorEq, Int.reduceBEq, Int.reduceBNe, Int.reduceLT, Int.reduceLE, Int.reduceGT, Int.reduceGE, Int.reduceEq, Int.reduceAdd, Int.reduceSub, Int.reduceMul, Nat.reduceMul, Nat.reduceSub, Nat.reduceLeDiff, f4] <;> rfl), (by simp only [go_sem, eRun_exit, Nat.reduceAdd, Nat.reduceLT, Nat.reduceEqDiff, reduceIte, reduceCtorEq, Int.reduceBEq, Int.reduceBNe, Int.reduceLT, Int.reduceLE, Int.reduceGT, Int.reduceGE, Int.reduceEq, Int.reduceAdd, Int.reduceSub, Int.reduceMul, Nat.reduceMul, Nat.reduceSub, Nat.reduceLeDiff, f10] <;> rfl), (by simp only [go_sem, eRun_exit, Nat.reduceAdd, Nat.reduceLT, Nat.reduceEqDiff, reduceIte, reduceCtorEq, Int.reduceBEq, Int.reduceBNe, Int.reduceLT, Int.reduceLE, Int.reduceGT, Int.reduceGE, Int.reduceEq, Int.reduceAdd, Int.reduceSub, Int.reduceMul, Nat.reduceMul, Nat.reduceSub, Nat.reduceLeDiff, f11] <;> rfl), (by simp only [go_sem, eRun_exit, Nat.reduceAdd, Nat.reduceLT, Nat.reduceEqDiff, reduceIte, reduceCtorEq, Int.reduceBEq, Int.reduceBNe, Int.reduceLT, Int.reduceLE, Int.reduceGT, Int.reduceGE, Int.reduceEq, Int.reduceAdd, Int.reduceSub, Int.reduceMul, Nat.reduceMul, Nat.reduceSub, Nat.reduceLeDiff, f12] <;> rfl)⟩, (by simp only [go_sem, eRun_exit, Nat.reduceAdd, Nat.reduceLT, Nat.reduceEqDiff, reduceIte, reduceCtorEq, Int.reduceBEq, Int.reduceBNe, Int.reduceLT, Int.reduceLE, Int.reduceGT, Int.reduceGE, Int.reduceEq, Int.reduceAdd, Int.reduceSub, Int.reduceMul, Nat.reduceMul, Nat.reduceSub, Nat.reduceLeDiff] <;> rfl), by omega, rfl, by rw [e]; exact hA⟩
  | true =>
    have e : cvB bs (i + 1) = cvB bs i ++ [cvLt i] := by simp [cvB, hx]
    have r0 : w.load b12 3 1 = some [bv] := by rw [hA.rule.load]; rfl
    refine WS_run 1000 (by simp only [go_sem, eRun_exit, Nat.reduceAdd, Nat.reduceLT, Nat.reduceEqDiff, reduceIte, reduceCtorEq, Int.reduceBEq, Int.reduceBNe, Int.reduceLT, Int.reduceLE, Int.reduceGT, Int.reduceGE, Int.reduceEq, Int.reduceAdd, Int.reduceSub, Int.reduceMul, Nat.reduceMul, Nat.reduceSub, Nat.reduceLeDiff, k_law9_CheckVars_p4, k_law9_CheckVars_p3, k_law9_CheckVars_p2, f4, f10, f13, l10, l4, hlt, hltb, Nat.mul_one, l1]; rfl) ?_
    refine WS_drawn ?_
    refine WDs_run 100 (by simp only [go_sem, eRun_exit, Nat.reduceAdd, Nat.reduceLT, Nat.reduceEqDiff, reduceIte, reduceCtorEq, Int.reduceBEq, Int.reduceBNe, Int.reduceLT, Int.reduceLE, Int.reduceGT, Int.reduceGE, Int.reduceEq, Int.reduceAdd, Int.reduceSub, Int.reduceMul, Nat.reduceMul, Nat.reduceSub, Nat.reduceLeDiff, f12, f11, f13, r0]; rfl) ?_
    refine WDs_call (by simp only [go_sem, eRun_exit, Nat.reduceAdd, Nat.reduceLT, Nat.reduceEqDiff, reduceIte, reduceCtorEq, Int.reduceBEq, Int.reduceBNe, Int.reduceLT, Int.reduceLE, Int.reduceGT, Int.reduceGE, Int.reduceEq, Int.reduceAdd, Int.reduceSub, Int.reduceMul, Nat.reduceMul, Nat.reduceSub, Nat.reduceLeDiff]) (by simp only [go_sem, eRun_exit, Nat.reduceAdd, Nat.reduceLT, Nat.reduceEqDiff, reduceIte, reduceCtorEq, Int.reduceBEq, Int.reduceBNe, Int.reduceLT, Int.reduceLE, Int.reduceGT, Int.reduceGE, Int.reduceEq, Int.reduceAdd, Int.reduceSub, Int.reduceMul, Nat.reduceMul, Nat.reduceSub, Nat.reduceLeDiff]; rfl) ?_
    refine cv1_ok C l10 hA.a10.lt (by omega) h4 fun w1 g1 => ?_
    rw [vIx_id hlt]
    have A1 := hA.ext g1
    have r1 : w1.load b12 3 1 = some [bv] := by rw [A1.rule.load]; rfl
    have g2 := fresh_frm (S := fun _ => False) w1 (tmC (vTm i))
    have n2 : (w1.fresh (tmC (vTm i))).next = w1.next + 1 := rfl
    have c2 := fresh_cb w1 (tmC (vTm i))
    generalize hw2 : w1.fresh (tmC (vTm i)) = w2 at g2 n2 c2
    have A2 := A1.ext g2
    have r2 : w2.load b12 3 1 = some [bv] := by rw [A2.rule.load]; rfl
    obtain ⟨X, hX⟩ : ∃ X, X = [V.int .i64 1, .str [98], .slice w1.next 0 1 (.known 1)] := ⟨_, rfl⟩
    have hlit : LtC (fun x => x = w1.next) w2 (cvLt i) X := hX ▸ ⟨_, rfl, tms_of (l := [vTm i]) rfl c2⟩
    have g3 := fresh_frm (S := fun _ => False) w2 X
    have A3 := A2.ext g3
    have hlit := hlit.frm g3 fun _ _ h => h
    have el := elems_fresh (w := w2) (esz := 3) (n := 1) (cs := X) (c := .known 1) (by omega) (by rw [hX]; rfl)
    have hXl : X.length = 3 := by rw [hX]; rfl
    have hov1 : over [V.int .i64 0, V.str [], V.int .i64 0] 0 (tmC (vTm i)) = some (tmC (vTm i)) := rfl
    have hov2 : over [V.int .i64 0, V.str [], V.nilslice] 0 [V.int .i64 1] = some [V.int .i64 1, V.str [], V.nilslice] := rfl
    have hov3 : over [V.int .i64 1, V.str [], V.nilslice] 1 [V.str [98]] = some [V.int .i64 1, V.str [98], V.nilslice] := rfl
    have hov4 : over [V.int .i64 1, V.str [98], V.nilslice] 2 [V.slice w1.next 0 1 (.known 1)] = some X := by rw [hX]; rfl
    have hov5 : over [V.int .i64 0, V.str [], V.nilslice] 0 X = some X := by rw [hX]; rfl
    have r3 : (w2.fresh X).load b12 3 1 = some [bv] := by rw [A3.rule.load]; rfl
    have wl := A1.a4.lt
    have wl2 := A1.a10.lt
    have wl3 := A1.rule.lt
    have wl4 := g1.next
    have wl5 := hA.frm.next
    obtain ⟨v', w5, S5, u1, u2, u3, u4⟩ := A3.grow (new := [cvLt i]) (nxs := [X]) (k := 1) (.cons hlit .nil) rfl (by have := cvB_len bs i; omega) (by omega) (by
      rintro x rfl
      have n3 : (w2.fresh X).next = w2.next + 1 := rfl
      refine ⟨by omega, by omega, by omega, by omega, by omega, fun h => ?_⟩
      have := (A1.sepS _ h).2.1; omega)
    simp only [List.flatten_cons, List.flatten_nil, List.append_nil] at u1
    rw [← e] at u4
    refine WDs_run 100 (by simp only [go_sem, eRun_exit, Nat.reduceAdd, Nat.reduceLT, Nat.reduceEqDiff, reduceIte, reduceCtorEq, Int.reduceBEq, Int.reduceBNe, Int.reduceLT, Int.reduceLE, Int.reduceGT, Int.reduceGE, Int.reduceEq, Int.reduceAdd, Int.reduceSub, Int.reduceMul, Nat.reduceMul, Nat.reduceSub, Nat.reduceLeDiff, f12, f11, f13, hw2, tmC_len, hXl, evParts, fillV, hov1, hov2, hov3, hov4, hov5, el, u1, u2, u3, List.length_cons, List.length_nil]; rfl) ?_
    refine WDs_nil ⟨(show chkAll _ _ [(1, 4), (1, 5), (1, 7)] from by simp only [go_sem, eRun_exit, Nat.reduceAdd, Nat.reduceLT, Nat.reduceEqDiff, reduceIte, reduceCtorEq, Int.reduceBEq, Int.reduceBNe, Int.reduceLT, Int.reduceLE, Int.reduceGT, Int.reduceGE, Int.reduceEq, Int.reduceAdd, Int.reduceSub, Int.reduceMul, Nat.reduceMul, Nat.reduceSub, Nat.reduceLeDiff, chkAll, chk, List.reverse_cons, List.reverse_nil, mkStp_fe, mkStp_v, mkStp_0, mkStp_1, List.getElem?_nil, false_or, or_true, or_false, exists_eq', Option.some.injEq, Prod.mk.injEq, Bool.true_eq_false, Bool.false_eq_true, and_true, true_and, implies_true,  f12, r0, r1, r2, r3]), ?_⟩
    refine WS_run 1000 (by simp only [go_sem, eRun_exit, Nat.reduceAdd, Nat.reduceLT, Nat.reduceEqDiff, reduceIte, reduceCtorEq, Int.reduceBEq, Int.reduceBNe, Int.reduceLT, Int.reduceLE, Int.reduceGT, Int.reduceGE, Int.reduceEq, Int.reduceAdd, Int.reduceSub, Int.reduceMul, Nat.reduceMul, Nat.reduceSub, Nat.reduceLeDiff, f13, hwr]; rfl) ?_
    exact ih _ _ _ (by omega) ⟨i + 1, v', S5, _, _, ⟨(by simp only [go_sem, eRun_exit, Nat.reduceAdd, Nat.reduceLT, Nat.reduceEqDiff, reduceIte, reduceCtorEq, Int.reduceBEq, Int.reduceBNe, Int.reduceLT, Int.reduceLE, Int.reduceGT, Int.reduceGE, Int.reduceEq, Int.reduceAdd, Int.reduceSub, Int.reduceMul, Nat.reduceMul, Nat.reduceSub, Nat.reduceLeDiff, f1] <;> rfl), (by simp only [go_sem, eRun_exit, Nat.reduceAdd, Nat.reduceLT, Nat.reduceEqDiff, reduceIte, reduceCtorEq, Int.reduceBEq, Int.reduceBNe, Int.reduceLT, Int.reduceLE, Int.reduceGT, Int.reduceGE, Int.reduceEq, Int.reduceAdd, Int.reduceSub, Int.reduceMul, Nat.reduceMul, Nat.reduceSub, Nat.reduceLeDiff, f2] <;> rfl), (by simp only [go_sem, eRun_exit, Nat.reduceAdd, Nat.reduceLT, Nat.reduceEqDiff, reduceIte, reduceCtorEq, Int.reduceBEq, Int.reduceBNe, Int.reduceLT, Int.reduceLE, Int.reduceGT, Int.reduceGE, Int.reduceEq, Int.reduceAdd, Int.reduceSub, Int.reduceMul, Nat.reduceMul, Nat.reduceSub, Nat.reduceLeDiff, f3] <;> rfl), (by simp only [go_sem, eRun_exit, Nat.reduceAdd, Nat.reduceLT, Nat.reduceEqDiff, reduceIte, reduceCtorEq, Int.reduceBEq, Int.reduceBNe, Int.reduceLT, Int.reduceLE, Int.reduceGT, Int.reduceGE, Int.reduceEq, Int.reduceAdd, Int.reduceSub, Int.reduceMul, Nat.reduceMul, Nat.reduceSub, Nat.reduceLeDiff, f4] <;> rfl), (by simp only [go_sem, eRun_exit, Nat.reduceAdd, Nat.reduceLT, Nat.reduceEqDiff, reduceIte, reduceCtorEq, Int.reduceBEq, Int.reduceBNe, Int.reduceLT, Int.reduceLE, Int.reduceGT, Int.reduceGE, Int.reduceEq, Int.reduceAdd, Int.reduceSub, Int.reduceMul, Nat.reduceMul, Nat.reduceSub, Nat.reduceLeDiff, f10] <;> rfl), (by simp only [go_sem, eRun_exit, Nat.reduceAdd, Nat.reduceLT, Nat.reduceEqDiff, reduceIte, reduceCtorEq, Int.reduceBEq, Int.reduceBNe, Int.reduceLT, Int.reduceLE, Int.reduceGT, Int.reduceGE, Int.reduceEq, Int.reduceAdd, Int.reduceSub, Int.reduceMul, Nat.reduceMul, Nat.reduceSub, Nat.reduceLeDiff, f11] <;> rfl), (by simp only [go_sem, eRun_exit, Nat.reduceAdd, Nat.reduceLT, Nat.reduceEqDiff, reduceIte, reduceCtorEq, Int.reduceBEq, Int.reduceBNe, Int.reduceLT, Int.reduceLE, Int.reduceGT, Int.reduceGE, Int.reduceEq, Int.reduceAdd, Int.reduceSub, Int.reduceMul, Nat.reduceMul, Nat.reduceSub, Nat.reduceLeDiff, f12] <;> rfl)⟩, (by simp only [go_sem, eRun_exit, Nat.reduceAdd, Nat.reduceLT, Nat.reduceEqDiff, reduceIte, reduceCtorEq, Int.reduceBEq, Int.reduceBNe, Int.reduceLT, Int.reduceLE, Int.reduceGT, Int.reduceGE, Int.reduceEq, Int.reduceAdd, Int.reduceSub, Int.reduceMul, Nat.reduceMul, Nat.reduceSub, Nat.reduceLeDiff] <;> rfl), by omega, rfl, u4⟩
end Go.Proofs.Ytjidefnbancmfaa

/- CheckVars: the law, whole. -/
set_option linter.unusedVariables false
set_option maxRecDepth 10000
set_option linter.unusedSimpArgs false
namespace Go.Proofs.Ytjidefnbancmfaa
open Go.AE Delphi
variable {tab : Tab}
/-- two more literals, and the verdict. -/
theorem cv_tail (C : Codes tab) {aw w : AW} {b4 b10 b12 n : Nat} {av hv : V} {bs : List Bool} {hd ng ls : Int} {f : Fr} {bv : V} {S T : Nat → Prop} {xss : List (List V)} {st : List SI} {Q : Fr → AW → Prop} (hnb : n ≤ bs.length) (h0 : 0 < n) (h4 : n ≤ 4)
    (hf : CvF f b4 b10 b12 hd ng ls) (hA : CvS aw w b4 b10 b12 av bs n hv (vIx n hd) (cvB bs n) bv S T xss)
    (h : ∀ f' w', f'.get 8 = some (.bool true) → Frm (fun _ => False) aw w' → WS tab [.code .ret] f' w' Q) : WS tab (.code k_law9_CheckVars_p6 :: st) f w Q := by
  obtain ⟨f1, f2, f3, f4, f10, f11, f12⟩ := hf
  have r0 : w.load b12 3 1 = some [bv] := by rw [hA.rule.load]; rfl
  have l10 : w.load b10 0 1 = some [.int .i64 (Int.ofNat n)] := hA.a10.load 0 1
  refine WS_run 1000 (by simp only [go_sem, eRun_exit, Nat.reduceAdd, Nat.reduceLT, Nat.reduceEqDiff, reduceIte, reduceCtorEq, Int.reduceBEq, Int.reduceBNe, Int.reduceLT, Int.reduceLE, Int.reduceGT, Int.reduceGE, Int.reduceEq, Int.reduceAdd, Int.reduceSub, Int.reduceMul, Nat.reduceMul, Nat.reduceSub, Nat.reduceLeDiff, k_law9_CheckVars_p6]; rfl) ?_
  refine WS_drawn ?_
  refine WDs_run 100 (by simp only [go_sem, eRun_exit, Nat.reduceAdd, Nat.reduceLT, Nat.reduceEqDiff, reduceIte, reduceCtorEq, Int.reduceBEq, Int.reduceBNe, Int.reduceLT, Int.reduceLE, Int.reduceGT, Int.reduceGE, Int.reduceEq, Int.reduceAdd, Int.reduceSub, Int.reduceMul, Nat.reduceMul, Nat.reduceSub, Nat.reduceLeDiff, f12, f11, f2, r0]; rfl) ?_
  refine WDs_call (by simp only [go_sem, eRun_exit, Nat.reduceAdd, Nat.reduceLT, Nat.reduceEqDiff, reduceIte, reduceCtorEq, Int.reduceBEq, Int.reduceBNe, Int.reduceLT, Int.reduceLE, Int.reduceGT, Int.reduceGE, Int.reduceEq, Int.reduceAdd, Int.reduceSub, Int.reduceMul, Nat.reduceMul, Nat.reduceSub, Nat.reduceLeDiff]) (by simp only [go_sem, eRun_exit, Nat.reduceAdd, Nat.reduceLT, Nat.reduceEqDiff, reduceIte, reduceCtorEq, Int.reduceBEq, Int.reduceBNe, Int.reduceLT, Int.reduceLE, Int.reduceGT, Int.reduceGE, Int.reduceEq, Int.reduceAdd, Int.reduceSub, Int.reduceMul, Nat.reduceMul, Nat.reduceSub, Nat.reduceLeDiff]; rfl) ?_
  refine cv1_ok C l10 hA.a10.lt h0 h4 fun w1 g1 => ?_
  have A1 := hA.ext g1
  have r1 : w1.load b12 3 1 = some [bv] := by rw [A1.rule.load]; rfl
  have g2 := fresh_frm (S := fun _ => False) w1 (tmC (vTm (vIx n ng)))
  have n2 : (w1.fresh (tmC (vTm (vIx n ng)))).next = w1.next + 1 := rfl
  have c2 := fresh_cb w1 (tmC (vTm (vIx n ng)))
  generalize hw2 : w1.fresh (tmC (vTm (vIx n ng))) = w2 at g2 n2 c2
  have A2 := A1.ext g2
  have r2 : w2.load b12 3 1 = some [bv] := by rw [A2.rule.load]; rfl
  have l10' : w2.load b10 0 1 = some [.int .i64 (Int.ofNat n)] := A2.a10.load 0 1
  obtain ⟨X, hX⟩ : ∃ X, X = [V.int .i64 2, .str [110], .slice w1.next 0 1 (.known 1)] := ⟨_, rfl⟩
  have hlit : LtC (fun x => x = w1.next) w2 ⟨2, [110], [vTm (vIx n ng)]⟩ X := hX ▸ ⟨_, rfl, tms_of (l := [vTm (vIx n ng)]) rfl c2⟩
  have hov1 : ∀ k, over [V.int .i64 0, V.str [], V.int .i64 0] 0 (tmC (vTm k)) = some (tmC (vTm k)) := fun _ => rfl
  have hov2 : over [V.int .i64 0, V.str [], V.nilslice] 0 [V.int .i64 2] = some [V.int .i64 2, V.str [], V.nilslice] := rfl
  have hov3 : over [V.int .i64 2, V.str [], V.nilslice] 1 [V.str [110]] = some [V.int .i64 2, V.str [110], V.nilslice] := rfl
  have hov4 : over [V.int .i64 2, V.str [110], V.nilslice] 2 [V.slice w1.next 0 1 (.known 1)] = some X := by rw [hX]; rfl
  refine WDs_run 100 (by simp only [go_sem, eRun_exit, Nat.reduceAdd, Nat.reduceLT, Nat.reduceEqDiff, reduceIte, reduceCtorEq, Int.reduceBEq, Int.reduceBNe, Int.reduceLT, Int.reduceLE, Int.reduceGT, Int.reduceGE, Int.reduceEq, Int.reduceAdd, Int.reduceSub, Int.reduceMul, Nat.reduceMul, Nat.reduceSub, Nat.reduceLeDiff, f12, f11, f3, hw2, tmC_len, evParts, fillV, hov1, hov2, hov3, hov4, List.length_cons, List.length_nil]; rfl) ?_
  refine WDs_call (by simp only [go_sem, eRun_exit, Nat.reduceAdd, Nat.reduceLT, Nat.reduceEqDiff, reduceIte, reduceCtorEq, Int.reduceBEq, Int.reduceBNe, Int.reduceLT, Int.reduceLE, Int.reduceGT, Int.reduceGE, Int.reduceEq, Int.reduceAdd, Int.reduceSub, Int.reduceMul, Nat.reduceMul, Nat.reduceSub, Nat.reduceLeDiff]) (by simp only [go_sem, eRun_exit, Nat.reduceAdd, Nat.reduceLT, Nat.reduceEqDiff, reduceIte, reduceCtorEq, Int.reduceBEq, Int.reduceBNe, Int.reduceLT, Int.reduceLE, Int.reduceGT, Int.reduceGE, Int.reduceEq, Int.reduceAdd, Int.reduceSub, Int.reduceMul, Nat.reduceMul, Nat.reduceSub, Nat.reduceLeDiff]; rfl) ?_
  refine cv1_ok C l10' A2.a10.lt h0 h4 fun w3 g3 => ?_
  have A3 := A2.ext g3
  have n3 := g3.next
  have hlit3 := hlit.frm g3 fun _ _ h => h
  obtain ⟨Y, hY⟩ : ∃ Y, Y = tmC (vTm (vIx n ls)) ++ [V.int .i64 3, .str [], .int .i64 3] := ⟨_, rfl⟩
  have c4 := fresh_cb w3 Y
  have n4 : (w3.fresh Y).next = w3.next + 1 := rfl
  have g4 := fresh_frm (S := fun _ => False) w3 Y
  have r3 : w3.load b12 3 1 = some [bv] := by rw [A3.rule.load]; rfl
  generalize hw4 : w3.fresh Y = w4 at g4 n4 c4
  have A4 := A3.ext g4
  have r4 : w4.load b12 3 1 = some [bv] := by rw [A4.rule.load]; rfl
  obtain ⟨Z, hZ⟩ : ∃ Z, Z = [V.int .i64 5, .str [], .slice w3.next 0 2 (.known 2)] := ⟨_, rfl⟩
  have hlit2 : LtC (fun x => x = w3.next) w4 ⟨5, [], [vTm (vIx n ls), ⟨3, [], 3⟩]⟩ Z := hZ ▸ ⟨_, rfl, tms_of (l := [vTm (vIx n ls), ⟨3, [], 3⟩]) rfl (by rw [hY] at c4; exact c4)⟩
  have hlit4 := hlit3.frm g4 fun _ _ h => h
  have hXl : X.length = 3 := by rw [hX]; rfl
  have hYl : Y.length = 6 := by rw [hY]; rfl
  have hZl : Z.length = 3 := by rw [hZ]; rfl
  obtain ⟨U, hU⟩ : ∃ U, U = X ++ Z := ⟨_, rfl⟩
  have hUl : U.length = 6 := by rw [hU, List.length_append, hXl, hZl]
  have g5 := fresh_frm (S := fun _ => False) w4 U
  have A5 := A4.ext g5
  have n5 : (w4.fresh U).next = w4.next + 1 := rfl
  have r5 : (w4.fresh U).load b12 3 1 = some [bv] := by rw [A5.rule.load]; rfl
  have el := elems_fresh (w := w4) (esz := 3) (n := 2) (cs := U) (c := .known 2) (by omega) (by rw [hUl])
  have wl := A1.a4.lt
  have wl2 := A1.a10.lt
  have wl3 := A1.rule.lt
  have wl4 := g1.next
  have wl5 := hA.frm.next
  obtain ⟨v', w6, S6, u1, u2, u3, u4⟩ := A5.grow (new := [⟨2, [110], [vTm (vIx n ng)]⟩, ⟨5, [], [vTm (vIx n ls), ⟨3, [], 3⟩]⟩]) (nxs := [X, Z]) (k := 2) (Tn := fun x => x = w1.next ∨ x = w3.next)
    (.cons ((hlit4.frm g5 fun _ _ h => h).mono fun _ h => .inl h) (.cons ((hlit2.frm g5 fun _ _ h => h).mono fun _ h => .inr h) .nil)) rfl (by have := cvB_len bs n; omega) (by omega) (by
      rintro x (rfl | rfl)
      · refine ⟨by omega, by omega, by omega, by omega, by omega, fun h => ?_⟩
        have := (A1.sepS _ h).2.1; omega
      · refine ⟨by omega, by omega, by omega, by omega, by omega, fun h => ?_⟩
        have := (A1.sepS _ h).2.1; omega)
  have eU : [X, Z].flatten = U := by rw [hU]; simp
  rw [eU] at u1
  have hov5 : over [V.int .i64 0, V.str [], V.int .i64 0] 0 [V.int .i64 3] = some [V.int .i64 3, V.str [], V.int .i64 0] := rfl
  have hov6 : over [V.int .i64 3, V.str [], V.int .i64 0] 2 [V.int .i64 3] = some [V.int .i64 3, V.str [], V.int .i64 3] := rfl
  have hov7 : over [V.int .i64 0, V.str [], V.int .i64 0, V.int .i64 0, V.str [], V.int .i64 0] 0 (tmC (vTm (vIx n ls))) = some (tmC (vTm (vIx n ls)) ++ [V.int .i64 0, V.str [], V.int .i64 0]) := rfl
  have hov8 : over (tmC (vTm (vIx n ls)) ++ [V.int .i64 0, V.str [], V.int .i64 0]) 3 [V.int .i64 3, V.str [], V.int .i64 3] = some Y := by rw [hY]; rfl
  have hov9 : over [V.int .i64 0, V.str [], V.nilslice] 0 [V.int .i64 5] = some [V.int .i64 5, V.str [], V.nilslice] := rfl
  have hov10 : over [V.int .i64 5, V.str [], V.nilslice] 2 [V.slice w3.next 0 2 (.known 2)] = some Z := by rw [hZ]; rfl
  have hov11 : over [V.int .i64 0, V.str [], V.nilslice, V.int .i64 0, V.str [], V.nilslice] 0 X = some (X ++ [V.int .i64 0, V.str [], V.nilslice]) := by rw [hX]; rfl
  have hov12 : over (X ++ [V.int .i64 0, V.str [], V.nilslice]) 3 Z = some U := by rw [hU, hX, hZ]; rfl
  refine WDs_run 100 (by simp only [go_sem, eRun_exit, Nat.reduceAdd, Nat.reduceLT, Nat.reduceEqDiff, reduceIte, reduceCtorEq, Int.reduceBEq, Int.reduceBNe, Int.reduceLT, Int.reduceLE, Int.reduceGT, Int.reduceGE, Int.reduceEq, Int.reduceAdd, Int.reduceSub, Int.reduceMul, Nat.reduceMul, Nat.reduceSub, Nat.reduceLeDiff, f12, f11, f3, hw4, tmC_len, hXl, hYl, hZl, hUl, evParts, fillV, hov1, hov5, hov6, hov7, hov8, hov9, hov10, hov11, hov12, el, u1, u2, u3, List.length_cons, List.length_nil]; rfl) ?_
  refine WDs_nil ⟨(show chkAll _ _ [(1, 4), (1, 5), (1, 9), (1, 11), (1, 13)] from by simp only [go_sem, eRun_exit, Nat.reduceAdd, Nat.reduceLT, Nat.reduceEqDiff, reduceIte, reduceCtorEq, Int.reduceBEq, Int.reduceBNe, Int.reduceLT, Int.reduceLE, Int.reduceGT, Int.reduceGE, Int.reduceEq, Int.reduceAdd, Int.reduceSub, Int.reduceMul, Nat.reduceMul, Nat.reduceSub, Nat.reduceLeDiff, chkAll, chk, List.reverse_cons, List.reverse_nil, mkStp_fe, mkStp_v, mkStp_0, mkStp_1, List.getElem?_nil, false_or, or_true, or_false, exists_eq', Option.some.injEq, Prod.mk.injEq, Bool.true_eq_false, Bool.false_eq_true, and_true, true_and, implies_true,  f12, r0, r1, r2, r3, r4, r5]), ?_⟩
  generalize hw7 : w6.put b12 [.int .i64 1, .str [104], hv, v'] = w7 at u4
  have hrl : RlC (fun x => S6 x ∨ (T x ∨ x = w1.next ∨ x = w3.next)) w7 (cvRule bs n (vIx n hd) (vIx n ng) (vIx n ls)) [.int .i64 1, .str [104], hv, v'] := by
    refine ⟨hv, v', rfl, u4.head.mono fun _ h => .inr h, _, u4.buf.rd.mono fun _ h => .inl h, u4.lits.imp fun _ _ hl => hl.mono fun _ h => .inr h⟩
  have hone := hrl.one
  have ld : w7.load b12 0 4 = some [.int .i64 1, .str [104], hv, v'] := u4.rule.all rfl
  refine WS_run 1000 (by simp only [go_sem, eRun_exit, Nat.reduceAdd, Nat.reduceLT, Nat.reduceEqDiff, reduceIte, reduceCtorEq, Int.reduceBEq, Int.reduceBNe, Int.reduceLT, Int.reduceLE, Int.reduceGT, Int.reduceGE, Int.reduceEq, Int.reduceAdd, Int.reduceSub, Int.reduceMul, Nat.reduceMul, Nat.reduceSub, Nat.reduceLeDiff, k_law9_CheckVars_p5, f4, f10, f12, ld]; rfl) ?_
  refine WS_call (by simp only [go_sem, eRun_exit, Nat.reduceAdd, Nat.reduceLT, Nat.reduceEqDiff, reduceIte, reduceCtorEq, Int.reduceBEq, Int.reduceBNe, Int.reduceLT, Int.reduceLE, Int.reduceGT, Int.reduceGE, Int.reduceEq, Int.reduceAdd, Int.reduceSub, Int.reduceMul, Nat.reduceMul, Nat.reduceSub, Nat.reduceLeDiff]) (by simp only [go_sem, eRun_exit, Nat.reduceAdd, Nat.reduceLT, Nat.reduceEqDiff, reduceIte, reduceCtorEq, Int.reduceBEq, Int.reduceBNe, Int.reduceLT, Int.reduceLE, Int.reduceGT, Int.reduceGE, Int.reduceEq, Int.reduceAdd, Int.reduceSub, Int.reduceMul, Nat.reduceMul, Nat.reduceSub, Nat.reduceLeDiff]; rfl) ?_
  refine safe_ok C hrl (cv_bd h4) fun w8 g8 => ?_
  have A8 := u4.ext g8
  have k10 : w8.load b10 0 1 = some [.int .i64 (Int.ofNat n)] := A8.a10.load 0 1
  have k4 : w8.load b4 0 1 = some [av] := A8.a4.load 0 1
  refine WS_run 1000 (by simp only [go_sem, eRun_exit, Nat.reduceAdd, Nat.reduceLT, Nat.reduceEqDiff, reduceIte, reduceCtorEq, Int.reduceBEq, Int.reduceBNe, Int.reduceLT, Int.reduceLE, Int.reduceGT, Int.reduceGE, Int.reduceEq, Int.reduceAdd, Int.reduceSub, Int.reduceMul, Nat.reduceMul, Nat.reduceSub, Nat.reduceLeDiff, f1]; rfl) ?_
  refine WS_call (by simp only [go_sem, eRun_exit, Nat.reduceAdd, Nat.reduceLT, Nat.reduceEqDiff, reduceIte, reduceCtorEq, Int.reduceBEq, Int.reduceBNe, Int.reduceLT, Int.reduceLE, Int.reduceGT, Int.reduceGE, Int.reduceEq, Int.reduceAdd, Int.reduceSub, Int.reduceMul, Nat.reduceMul, Nat.reduceSub, Nat.reduceLeDiff]) (by simp only [go_sem, eRun_exit, Nat.reduceAdd, Nat.reduceLT, Nat.reduceEqDiff, reduceIte, reduceCtorEq, Int.reduceBEq, Int.reduceBNe, Int.reduceLT, Int.reduceLE, Int.reduceGT, Int.reduceGE, Int.reduceEq, Int.reduceAdd, Int.reduceSub, Int.reduceMul, Nat.reduceMul, Nat.reduceSub, Nat.reduceLeDiff]; rfl) ?_
  refine cv2_ok C k10 k4 A8.args hnb h0 h4 fun x ex => ?_
  obtain ⟨y, ey⟩ : ∃ y, bs[vIx n ng]? = some y := ⟨_, List.getElem?_eq_getElem (by have := vIx_lt (i := ng) h0; omega)⟩
  obtain ⟨z, ez⟩ : ∃ z, bs[vIx n ls]? = some z := ⟨_, List.getElem?_eq_getElem (by have := vIx_lt (i := ls) h0; omega)⟩
  rw [cv_safe (vIx_lt h0) (vIx_lt h0) (vIx_lt h0) ex ey ez]
  cases x with
  | false =>
    refine WS_run 1000 (by simp only [go_sem, eRun_exit, Nat.reduceAdd, Nat.reduceLT, Nat.reduceEqDiff, reduceIte, reduceCtorEq, Int.reduceBEq, Int.reduceBNe, Int.reduceLT, Int.reduceLE, Int.reduceGT, Int.reduceGE, Int.reduceEq, Int.reduceAdd, Int.reduceSub, Int.reduceMul, Nat.reduceMul, Nat.reduceSub, Nat.reduceLeDiff, f1]; rfl) ?_
    exact h _ _ (by simp only [go_sem, eRun_exit, Nat.reduceAdd, Nat.reduceLT, Nat.reduceEqDiff, reduceIte, reduceCtorEq, Int.reduceBEq, Int.reduceBNe, Int.reduceLT, Int.reduceLE, Int.reduceGT, Int.reduceGE, Int.reduceEq, Int.reduceAdd, Int.reduceSub, Int.reduceMul, Nat.reduceMul, Nat.reduceSub, Nat.reduceLeDiff] <;> rfl) A8.frm
  | true =>
    refine WS_run 1000 (by simp only [go_sem, eRun_exit, Nat.reduceAdd, Nat.reduceLT, Nat.reduceEqDiff, reduceIte, reduceCtorEq, Int.reduceBEq, Int.reduceBNe, Int.reduceLT, Int.reduceLE, Int.reduceGT, Int.reduceGE, Int.reduceEq, Int.reduceAdd, Int.reduceSub, Int.reduceMul, Nat.reduceMul, Nat.reduceSub, Nat.reduceLeDiff, f2]; rfl) ?_
    refine WS_call (by simp only [go_sem, eRun_exit, Nat.reduceAdd, Nat.reduceLT, Nat.reduceEqDiff, reduceIte, reduceCtorEq, Int.reduceBEq, Int.reduceBNe, Int.reduceLT, Int.reduceLE, Int.reduceGT, Int.reduceGE, Int.reduceEq, Int.reduceAdd, Int.reduceSub, Int.reduceMul, Nat.reduceMul, Nat.reduceSub, Nat.reduceLeDiff]) (by simp only [go_sem, eRun_exit, Nat.reduceAdd, Nat.reduceLT, Nat.reduceEqDiff, reduceIte, reduceCtorEq, Int.reduceBEq, Int.reduceBNe, Int.reduceLT, Int.reduceLE, Int.reduceGT, Int.reduceGE, Int.reduceEq, Int.reduceAdd, Int.reduceSub, Int.reduceMul, Nat.reduceMul, Nat.reduceSub, Nat.reduceLeDiff]; rfl) ?_
    refine cv2_ok C k10 k4 A8.args hnb h0 h4 fun y' ey' => ?_
    rw [ey] at ey'
    cases ey'
    cases y with
    | false =>
      refine WS_run 1000 (by simp only [go_sem, eRun_exit, Nat.reduceAdd, Nat.reduceLT, Nat.reduceEqDiff, reduceIte, reduceCtorEq, Int.reduceBEq, Int.reduceBNe, Int.reduceLT, Int.reduceLE, Int.reduceGT, Int.reduceGE, Int.reduceEq, Int.reduceAdd, Int.reduceSub, Int.reduceMul, Nat.reduceMul, Nat.reduceSub, Nat.reduceLeDiff, f1]; rfl) ?_
      exact h _ _ (by simp only [go_sem, eRun_exit, Nat.reduceAdd, Nat.reduceLT, Nat.reduceEqDiff, reduceIte, reduceCtorEq, Int.reduceBEq, Int.reduceBNe, Int.reduceLT, Int.reduceLE, Int.reduceGT, Int.reduceGE, Int.reduceEq, Int.reduceAdd, Int.reduceSub, Int.reduceMul, Nat.reduceMul, Nat.reduceSub, Nat.reduceLeDiff] <;> rfl) A8.frm
    | true =>
      refine WS_run 1000 (by simp only [go_sem, eRun_exit, Nat.reduceAdd, Nat.reduceLT, Nat.reduceEqDiff, reduceIte, reduceCtorEq, Int.reduceBEq, Int.reduceBNe, Int.reduceLT, Int.reduceLE, Int.reduceGT, Int.reduceGE, Int.reduceEq, Int.reduceAdd, Int.reduceSub, Int.reduceMul, Nat.reduceMul, Nat.reduceSub, Nat.reduceLeDiff, f3]; rfl) ?_
      refine WS_call (by simp only [go_sem, eRun_exit, Nat.reduceAdd, Nat.reduceLT, Nat.reduceEqDiff, reduceIte, reduceCtorEq, Int.reduceBEq, Int.reduceBNe, Int.reduceLT, Int.reduceLE, Int.reduceGT, Int.reduceGE, Int.reduceEq, Int.reduceAdd, Int.reduceSub, Int.reduceMul, Nat.reduceMul, Nat.reduceSub, Nat.reduceLeDiff]) (by simp only [go_sem, eRun_exit, Nat.reduceAdd, Nat.reduceLT, Nat.reduceEqDiff, reduceIte, reduceCtorEq, Int.reduceBEq, Int.reduceBNe, Int.reduceLT, Int.reduceLE, Int.reduceGT, Int.reduceGE, Int.reduceEq, Int.reduceAdd, Int.reduceSub, Int.reduceMul, Nat.reduceMul, Nat.reduceSub, Nat.reduceLeDiff]; rfl) ?_
      refine cv2_ok C k10 k4 A8.args hnb h0 h4 fun z' ez' => ?_
      rw [ez] at ez'
      cases ez'
      cases z with
      | false =>
        refine WS_run 1000 (by simp only [go_sem, eRun_exit, Nat.reduceAdd, Nat.reduceLT, Nat.reduceEqDiff, reduceIte, reduceCtorEq, Int.reduceBEq, Int.reduceBNe, Int.reduceLT, Int.reduceLE, Int.reduceGT, Int.reduceGE, Int.reduceEq, Int.reduceAdd, Int.reduceSub, Int.reduceMul, Nat.reduceMul, Nat.reduceSub, Nat.reduceLeDiff, f1]; rfl) ?_
        exact h _ _ (by simp only [go_sem, eRun_exit, Nat.reduceAdd, Nat.reduceLT, Nat.reduceEqDiff, reduceIte, reduceCtorEq, Int.reduceBEq, Int.reduceBNe, Int.reduceLT, Int.reduceLE, Int.reduceGT, Int.reduceGE, Int.reduceEq, Int.reduceAdd, Int.reduceSub, Int.reduceMul, Nat.reduceMul, Nat.reduceSub, Nat.reduceLeDiff] <;> rfl) A8.frm
      | true =>
        refine WS_run 1000 (by simp only [go_sem, eRun_exit, Nat.reduceAdd, Nat.reduceLT, Nat.reduceEqDiff, reduceIte, reduceCtorEq, Int.reduceBEq, Int.reduceBNe, Int.reduceLT, Int.reduceLE, Int.reduceGT, Int.reduceGE, Int.reduceEq, Int.reduceAdd, Int.reduceSub, Int.reduceMul, Nat.reduceMul, Nat.reduceSub, Nat.reduceLeDiff, f1]; rfl) ?_
        exact h _ _ (by simp only [go_sem, eRun_exit, Nat.reduceAdd, Nat.reduceLT, Nat.reduceEqDiff, reduceIte, reduceCtorEq, Int.reduceBEq, Int.reduceBNe, Int.reduceLT, Int.reduceLE, Int.reduceGT, Int.reduceGE, Int.reduceEq, Int.reduceAdd, Int.reduceSub, Int.reduceMul, Nat.reduceMul, Nat.reduceSub, Nat.reduceLeDiff] <;> rfl) A8.frm
end Go.Proofs.Ytjidefnbancmfaa

/- CheckRules: the law. -/
set_option linter.unusedVariables false
set_option maxRecDepth 10000
set_option linter.unusedSimpArgs false
namespace Go.Proofs.Ytjidefnbancmfaa
open Go.AE Delphi
variable {tab : Tab}
end Go.Proofs.Ytjidefnbancmfaa

/- CheckRules: facts as they are given; the law. -/
set_option linter.unusedVariables false
set_option maxRecDepth 10000
set_option linter.unusedSimpArgs false
namespace Go.Proofs.Ytjidefnbancmfaa
open Go.AE Delphi
variable {tab : Tab}
theorem capfit {n esz : Nat} {c : Cap} (h : CapOk n c) : CapFit esz n c := by
  cases c with
  | known k => exact h
  | upTo z => exact .inr h
theorem slice_rd {α : Type} {rel : AW → α → List V → Prop} {aw : AW} {l : List α} {x : V} {esz : Nat} (h : SliceR rel aw l [x]) (hsz : ∀ {xss : List (List V)}, All2 (rel aw) l xss → xss.flatten.length = l.length * esz) : ∃ xss, Rd (fun _ => True) aw x esz l.length xss.flatten ∧ All2 (rel aw) l xss ∧ l.length ≤ maxLen := by
  rcases h with ⟨h1, rfl⟩ | ⟨b, c, xss, h1, hb, hg, ha, hl, hc⟩
  · cases h1; exact ⟨[], .nil, .nil, Nat.zero_le _⟩
  · cases h1
    have hz := hsz ha
    exact ⟨xss, .blk trivial hb hg (.inr (.inr (.inl rfl))) (by omega) (by rw [List.drop_zero, List.take_of_length_le (by omega)]) (capfit hc), ha, hl⟩
end Go.Proofs.Ytjidefnbancmfaa

/- CheckVars: the law, from its beginning. -/
set_option linter.unusedVariables false
set_option maxRecDepth 10000
set_option linter.unusedSimpArgs false
namespace Go.Proofs.Ytjidefnbancmfaa
open Go.AE Delphi
variable {tab : Tab}
abbrev BoolC : AW → Bool → List V → Prop := fun _ b xs => xs = [.bool b]
theorem bools_flat {aw : AW} : ∀ {l : List Bool} {xss : List (List V)}, All2 (BoolC aw) l xss → xss.flatten = l.map V.bool
  | [], _, .nil => rfl
  | b :: l, _, .cons h1 h => by rw [List.flatten_cons, bools_flat h, h1]; rfl
/-- CheckVars. -/
theorem checkVars_law (C : Codes tab) (B : Begins tab n_law9_begun) {av : V} {bs : List Bool} {hd ng ls : Int} {aw : AW} (ho : SliceR BoolC aw bs [av]) :
    WF tab n_law9_CheckVars [av, .int .i64 hd, .int .i64 ng, .int .i64 ls] aw (fun v aw' => v = .bool true ∧ Ext aw.next aw aw') := by
  refine WF_of C.c_law9_CheckVars rfl ?_
  obtain ⟨xss, hrd, hall, hml⟩ := slice_rd (esz := 1) ho (fun h => by rw [bools_flat h]; simp)
  rw [bools_flat hall] at hrd
  have hrd := Rd.cut hrd
  have hrd : Rd (fun x => x < aw.next) aw av 1 bs.length (bs.map V.bool) := hrd.mono fun _ h => h.2
  have hlv := hrd.lenV
  have hone : av.one = true ∧ av.cells = [av] := by rcases hrd.inv with ⟨rfl, _⟩ | ⟨_, _, _, rfl, _⟩ <;> exact ⟨rfl, rfl⟩
  have fin : ∀ (f' : Fr) (w' : AW), f'.get 8 = some (.bool true) → Frm (fun _ => False) aw w' → WS tab [.code .ret] f' w' fun fr' a => ∃ vs, resV fr' a k_law9_CheckVars.results = some vs ∧ (resOne vs = .bool true ∧ Ext aw.next aw a) := by
    intro f' w' f8 hf
    refine WS_ret ⟨_, by simp only [go_sem, eRun_exit, Nat.reduceAdd, Nat.reduceLT, Nat.reduceEqDiff, reduceIte, reduceCtorEq, Int.reduceBEq, Int.reduceBNe, Int.reduceLT, Int.reduceLE, Int.reduceGT, Int.reduceGE, Int.reduceEq, Int.reduceAdd, Int.reduceSub, Int.reduceMul, Nat.reduceMul, Nat.reduceSub, Nat.reduceLeDiff, k_law9_CheckVars, f8]; rfl, ?_⟩
    exact ⟨rfl, hf.ext (Nat.le_refl _) fun x hx => hx.elim⟩
  have c4 := fresh_cb aw [av]
  have g1 := fresh_frm (S := fun _ => False) aw [av]
  have m1 : (aw.fresh [av]).next = aw.next + 1 := rfl
  generalize hw1 : aw.fresh [av] = w1 at c4 g1 m1
  have k4 : w1.load aw.next 0 1 = some [av] := c4.load 0 1
  obtain ⟨n, hn⟩ : ∃ n, n = if 4 < bs.length then 4 else bs.length := ⟨_, rfl⟩
  have hmin : minL (V.int .i64 (Int.ofNat bs.length)) [V.int .i64 4] = some (V.int .i64 (Int.ofNat n)) := by
    have e : minL (V.int .i64 (Int.ofNat bs.length)) [V.int .i64 4] = some (V.int .i64 (if (4 : Int) < Int.ofNat bs.length then 4 else Int.ofNat bs.length)) := rfl
    rw [e, hn]
    have e2 : Int.ofNat bs.length = (bs.length : Int) := rfl
    by_cases hg : 4 < bs.length
    · rw [if_pos hg, if_pos (by omega)]; rfl
    · rw [if_neg hg, if_neg (by omega)]
  have hnb : n ≤ bs.length := by rw [hn]; split <;> omega
  have h4 : n ≤ 4 := by rw [hn]; split <;> omega
  clear hn
  obtain ⟨w2, s2, c2, r2, m2⟩ := boxed w1 (zs := [V.int .i64 0]) (vs := [V.int .i64 (Int.ofNat n)]) rfl rfl
  have k10 : w2.load w1.next 0 1 = some [.int .i64 (Int.ofNat n)] := c2.load 0 1
  refine WS_run 1000 (by simp only [go_sem, eRun_exit, Nat.reduceAdd, Nat.reduceLT, Nat.reduceEqDiff, reduceIte, reduceCtorEq, Int.reduceBEq, Int.reduceBNe, Int.reduceLT, Int.reduceLE, Int.reduceGT, Int.reduceGE, Int.reduceEq, Int.reduceAdd, Int.reduceSub, Int.reduceMul, Nat.reduceMul, Nat.reduceSub, Nat.reduceLeDiff, k_law9_CheckVars, hw1, hone.2]; rfl) ?_
  refine WS_call (by simp only [go_sem, eRun_exit, Nat.reduceAdd, Nat.reduceLT, Nat.reduceEqDiff, reduceIte, reduceCtorEq, Int.reduceBEq, Int.reduceBNe, Int.reduceLT, Int.reduceLE, Int.reduceGT, Int.reduceGE, Int.reduceEq, Int.reduceAdd, Int.reduceSub, Int.reduceMul, Nat.reduceMul, Nat.reduceSub, Nat.reduceLeDiff]) (by simp only [go_sem, eRun_exit, Nat.reduceAdd, Nat.reduceLT, Nat.reduceEqDiff, reduceIte, reduceCtorEq, Int.reduceBEq, Int.reduceBNe, Int.reduceLT, Int.reduceLE, Int.reduceGT, Int.reduceGE, Int.reduceEq, Int.reduceAdd, Int.reduceSub, Int.reduceMul, Nat.reduceMul, Nat.reduceSub, Nat.reduceLeDiff]; rfl) ?_
  refine begins_ok B ?_
  by_cases h0 : n = 0
  · subst h0
    refine WS_run 1000 (by simp only [go_sem, eRun_exit, Nat.reduceAdd, Nat.reduceLT, Nat.reduceEqDiff, reduceIte, reduceCtorEq, Int.reduceBEq, Int.reduceBNe, Int.reduceLT, Int.reduceLE, Int.reduceGT, Int.reduceGE, Int.reduceEq, Int.reduceAdd, Int.reduceSub, Int.reduceMul, Nat.reduceMul, Nat.reduceSub, Nat.reduceLeDiff, k_law9_CheckVars_p9, k_law9_CheckVars_p8, k_law9_CheckVars_p1, k4, hlv, hmin, s2, k10, List.length_cons, List.length_nil]; rfl) ?_
    exact fin _ _ (by simp only [go_sem, eRun_exit, Nat.reduceAdd, Nat.reduceLT, Nat.reduceEqDiff, reduceIte, reduceCtorEq, Int.reduceBEq, Int.reduceBNe, Int.reduceLT, Int.reduceLE, Int.reduceGT, Int.reduceGE, Int.reduceEq, Int.reduceAdd, Int.reduceSub, Int.reduceMul, Nat.reduceMul, Nat.reduceSub, Nat.reduceLeDiff] <;> rfl) (g1.tr r2)
  · refine WS_run 1000 (by simp only [go_sem, eRun_exit, Nat.reduceAdd, Nat.reduceLT, Nat.reduceEqDiff, reduceIte, reduceCtorEq, Int.reduceBEq, Int.reduceBNe, Int.reduceLT, Int.reduceLE, Int.reduceGT, Int.reduceGE, Int.reduceEq, Int.reduceAdd, Int.reduceSub, Int.reduceMul, Nat.reduceMul, Nat.reduceSub, Nat.reduceLeDiff, k_law9_CheckVars_p9, k_law9_CheckVars_p8, k_law9_CheckVars_p7, k4, hlv, hmin, s2, k10, h0, List.length_cons, List.length_nil]; rfl) ?_
    refine WS_call (by simp only [go_sem, eRun_exit, Nat.reduceAdd, Nat.reduceLT, Nat.reduceEqDiff, reduceIte, reduceCtorEq, Int.reduceBEq, Int.reduceBNe, Int.reduceLT, Int.reduceLE, Int.reduceGT, Int.reduceGE, Int.reduceEq, Int.reduceAdd, Int.reduceSub, Int.reduceMul, Nat.reduceMul, Nat.reduceSub, Nat.reduceLeDiff]) (by simp only [go_sem, eRun_exit, Nat.reduceAdd, Nat.reduceLT, Nat.reduceEqDiff, reduceIte, reduceCtorEq, Int.reduceBEq, Int.reduceBNe, Int.reduceLT, Int.reduceLE, Int.reduceGT, Int.reduceGE, Int.reduceEq, Int.reduceAdd, Int.reduceSub, Int.reduceMul, Nat.reduceMul, Nat.reduceSub, Nat.reduceLeDiff]; rfl) ?_
    refine cv1_ok C k10 c2.lt (by omega) h4 fun w3 g3 => ?_
    have c5 := fresh_cb w3 (tmC (vTm (vIx n hd)))
    have g5 := fresh_frm (S := fun _ => False) w3 (tmC (vTm (vIx n hd)))
    have m5 : (w3.fresh (tmC (vTm (vIx n hd)))).next = w3.next + 1 := rfl
    have m3 := g3.next
    generalize hw5 : w3.fresh (tmC (vTm (vIx n hd))) = w5 at c5 g5 m5
    obtain ⟨w6, s6, c6, r6, m6⟩ := boxed w5 (zs := [V.int .i64 0, V.str [], V.nilslice, V.nilslice]) (vs := [V.int .i64 1, V.str [104], V.slice w3.next 0 1 (.known 1), V.nilslice]) rfl rfl
    have hov1 : ∀ k, over [V.int .i64 0, V.str [], V.int .i64 0] 0 (tmC (vTm k)) = some (tmC (vTm k)) := fun _ => rfl
    have hov2 : over [V.int .i64 0, V.str [], V.nilslice] 0 [V.int .i64 1] = some [V.int .i64 1, V.str [], V.nilslice] := rfl
    have hov3 : over [V.int .i64 1, V.str [], V.nilslice] 1 [V.str [104]] = some [V.int .i64 1, V.str [104], V.nilslice] := rfl
    have hov4 : over [V.int .i64 1, V.str [104], V.nilslice] 2 [V.slice w3.next 0 1 (.known 1)] = some [V.int .i64 1, V.str [104], V.slice w3.next 0 1 (.known 1)] := rfl
    have hov5 : over [V.int .i64 0, V.str [], V.nilslice, V.nilslice] 0 [V.int .i64 1, V.str [104], V.slice w3.next 0 1 (.known 1)] = some [V.int .i64 1, V.str [104], V.slice w3.next 0 1 (.known 1), V.nilslice] := rfl
    have hfr : Frm (fun _ => False) aw w6 := (((g1.tr r2).tr g3).tr g5).tr r6
    have hh : Rd (fun x => x = w3.next) w5 (.slice w3.next 0 1 (.known 1)) 3 1 (tmsC [vTm (vIx n hd)]) := tms_of (l := [vTm (vIx n hd)]) rfl c5
    have hA : CvS aw w6 aw.next w1.next w5.next av bs n (.slice w3.next 0 1 (.known 1)) (vIx n hd) (cvB bs 0) .nilslice (fun _ => False) (fun x => x = w3.next) [] := by
      refine ⟨hfr, (((c4.frm r2 fun h => h).frm g3 fun h => h).frm g5 fun h => h).frm r6 fun h => h, ((c2.frm g3 fun h => h).frm g5 fun h => h).frm r6 fun h => h, c6, hh.frm r6 fun _ _ h => h, hrd.frm hfr fun _ _ h => h, .nil, .nil, by omega, fun _ h => h.elim, ?_⟩
      rintro x rfl
      have h1 := c4.lt
      have h2 := c2.lt
      exact ⟨by omega, by omega, by omega, by omega, by omega⟩
    refine WS_run 1000 (by simp only [go_sem, eRun_exit, Nat.reduceAdd, Nat.reduceLT, Nat.reduceEqDiff, reduceIte, reduceCtorEq, Int.reduceBEq, Int.reduceBNe, Int.reduceLT, Int.reduceLE, Int.reduceGT, Int.reduceGE, Int.reduceEq, Int.reduceAdd, Int.reduceSub, Int.reduceMul, Nat.reduceMul, Nat.reduceSub, Nat.reduceLeDiff, hw5, tmC_len, evParts, fillV, hov1, hov2, hov3, hov4, hov5, s6, List.length_cons, List.length_nil]; rfl) ?_
    refine WS_loopJ (CvI aw aw.next w1.next w5.next av bs n (.slice w3.next 0 1 (.known 1)) hd ng ls) (fun f w => ∃ bv S T xss, CvF f aw.next w1.next w5.next hd ng ls ∧ CvS aw w aw.next w1.next w5.next av bs n (.slice w3.next 0 1 (.known 1)) (vIx n hd) (cvB bs n) bv S T xss) (fun q f w hI ih out => cv_loop C hnb h4 hI ih out) ?_ n
      ⟨0, .nilslice, _, _, [], ⟨(by simp only [go_sem, eRun_exit, Nat.reduceAdd, Nat.reduceLT, Nat.reduceEqDiff, reduceIte, reduceCtorEq, Int.reduceBEq, Int.reduceBNe, Int.reduceLT, Int.reduceLE, Int.reduceGT, Int.reduceGE, Int.reduceEq, Int.reduceAdd, Int.reduceSub, Int.reduceMul, Nat.reduceMul, Nat.reduceSub, Nat.reduceLeDiff] <;> rfl), (by simp only [go_sem, eRun_exit, Nat.reduceAdd, Nat.reduceLT, Nat.reduceEqDiff, reduceIte, reduceCtorEq, Int.reduceBEq, Int.reduceBNe, Int.reduceLT, Int.reduceLE, Int.reduceGT, Int.reduceGE, Int.reduceEq, Int.reduceAdd, Int.reduceSub, Int.reduceMul, Nat.reduceMul, Nat.reduceSub, Nat.reduceLeDiff] <;> rfl), (by simp only [go_sem, eRun_exit, Nat.reduceAdd, Nat.reduceLT, Nat.reduceEqDiff, reduceIte, reduceCtorEq, Int.reduceBEq, Int.reduceBNe, Int.reduceLT, Int.reduceLE, Int.reduceGT, Int.reduceGE, Int.reduceEq, Int.reduceAdd, Int.reduceSub, Int.reduceMul, Nat.reduceMul, Nat.reduceSub, Nat.reduceLeDiff] <;> rfl), (by simp only [go_sem, eRun_exit, Nat.reduceAdd, Nat.reduceLT, Nat.reduceEqDiff, reduceIte, reduceCtorEq, Int.reduceBEq, Int.reduceBNe, Int.reduceLT, Int.reduceLE, Int.reduceGT, Int.reduceGE, Int.reduceEq, Int.reduceAdd, Int.reduceSub, Int.reduceMul, Nat.reduceMul, Nat.reduceSub, Nat.reduceLeDiff] <;> rfl), (by simp only [go_sem, eRun_exit, Nat.reduceAdd, Nat.reduceLT, Nat.reduceEqDiff, reduceIte, reduceCtorEq, Int.reduceBEq, Int.reduceBNe, Int.reduceLT, Int.reduceLE, Int.reduceGT, Int.reduceGE, Int.reduceEq, Int.reduceAdd, Int.reduceSub, Int.reduceMul, Nat.reduceMul, Nat.reduceSub, Nat.reduceLeDiff] <;> rfl), (by simp only [go_sem, eRun_exit, Nat.reduceAdd, Nat.reduceLT, Nat.reduceEqDiff, reduceIte, reduceCtorEq, Int.reduceBEq, Int.reduceBNe, Int.reduceLT, Int.reduceLE, Int.reduceGT, Int.reduceGE, Int.reduceEq, Int.reduceAdd, Int.reduceSub, Int.reduceMul, Nat.reduceMul, Nat.reduceSub, Nat.reduceLeDiff] <;> rfl), (by simp only [go_sem, eRun_exit, Nat.reduceAdd, Nat.reduceLT, Nat.reduceEqDiff, reduceIte, reduceCtorEq, Int.reduceBEq, Int.reduceBNe, Int.reduceLT, Int.reduceLE, Int.reduceGT, Int.reduceGE, Int.reduceEq, Int.reduceAdd, Int.reduceSub, Int.reduceMul, Nat.reduceMul, Nat.reduceSub, Nat.reduceLeDiff] <;> rfl)⟩, (by simp only [go_sem, eRun_exit, Nat.reduceAdd, Nat.reduceLT, Nat.reduceEqDiff, reduceIte, reduceCtorEq, Int.reduceBEq, Int.reduceBNe, Int.reduceLT, Int.reduceLE, Int.reduceGT, Int.reduceGE, Int.reduceEq, Int.reduceAdd, Int.reduceSub, Int.reduceMul, Nat.reduceMul, Nat.reduceSub, Nat.reduceLeDiff] <;> rfl), by omega, rfl, hA⟩
    rintro f w ⟨bv, S, T, xss, hf, hA⟩
    exact cv_tail C hnb (by omega) h4 hf hA fin
end Go.Proofs.Ytjidefnbancmfaa
