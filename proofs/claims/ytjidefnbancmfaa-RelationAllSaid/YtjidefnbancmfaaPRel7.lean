/- RelationMany: the rows come. -/
import Derived.Test.YtjidefnbancmfaaPRel6
set_option linter.unusedVariables false
set_option linter.unusedSimpArgs false
namespace Go.Proofs.Ytjidefnbancmfaa
open Go.AE
variable {tab : Tab}
def rowOf (k : Nat) : List Int := [Int.ofNat (k / 10 + 1), Int.ofNat (k % 10 + 1)]
theorem rowOf_inj {j k : Nat} (h : rowOf j = rowOf k) : j = k := by
  simp only [rowOf, List.cons.injEq, and_true] at h
  have h1 : j / 10 + 1 = k / 10 + 1 := Int.ofNat.inj h.1
  have h2 : j % 10 + 1 = k % 10 + 1 := Int.ofNat.inj h.2
  omega
structure AddW (N : Nat) (w : AW) (bs bo : Nat) (rows : List (List Int)) (on : List Bool) (S : Nat → Prop) : Prop where
  set : SetOf S w (.ptr bs 0) 2 rows
  hon : w.heap.get bo = some (.cells (on.map V.bool) .own)
  nS : ¬ S bo
  lo : bo < w.next
  bN : N ≤ bo
  SN : ∀ x, S x → N ≤ x ∧ x < w.next
  len : on.length = 300
  at_ : ∀ j, j < 300 → on[j]? = some (decide (rowOf j ∈ rows))
  mem : ∀ y ∈ rows, ∃ j, j < 300 ∧ y = rowOf j
def AddI (n step : Nat) (aw : AW) (bs bo : Nat) (q : Nat) (f : Fr) (w : AW) : Prop :=
  ∃ i k rows on S, f.get 0 = some (.int .i64 (Int.ofNat n)) ∧ f.get 1 = some (.int .i64 (Int.ofNat step)) ∧ f.get 6 = some (.ptr bs 0) ∧ f.get 7 = some (.int .i64 (Int.ofNat k)) ∧ f.get 8 = some (.int .i64 (Int.ofNat rows.length)) ∧ f.get 9 = some (.ptr bo 0) ∧ f.get 10 = some (.int .i64 (Int.ofNat i)) ∧
    AddW aw.next w bs bo rows on S ∧ Ext aw.next aw w ∧ rows.length ≤ i ∧ i ≤ n ∧ k < 300 ∧ q = n - i
/-- behind the rows' coming. -/
def k12r : ACode := (.seq (.region [⟨some 67, none, .mov (.tmp 6)⟩,
  ⟨some 68, none, .call (.const (.func (.func 39) [] [])) [(.tmp 67)]⟩,
  ⟨some 11, none, .mov (.tmp 68)⟩])
 (.seq (.seq (.region [⟨some 69, none, .mov (.tmp 11)⟩,
  ⟨some 70, none, .lenSl (.tmp 69)⟩,
  ⟨some 71, none, .mov (.tmp 8)⟩,
  ⟨some 72, none, .bin .neq (.tmp 70) (.tmp 71)⟩,
  ⟨some 73, none, .mov (.tmp 72)⟩,
  ⟨some 74, (some (73, false)), .mov (.tmp 6)⟩,
  ⟨some 75, (some (73, false)), .call (.const (.func (.func 40) [] [])) [(.tmp 74)]⟩,
  ⟨some 76, (some (73, false)), .mov (.tmp 8)⟩,
  ⟨some 77, (some (73, false)), .bin .neq (.tmp 75) (.tmp 76)⟩,
  ⟨some 78, none, .pick (.tmp 73) (.const (.bool true)) (.tmp 77)⟩])
 (.cond (.tmp 78) (.seq (.region [⟨some 4, none, .mov (.const (.bool false))⟩])
 .ret) .skip))
 (.seq (.seq (.region [⟨some 12, none, .mov (.const (.int .i64 1))⟩])
 (.block 2 (.loop k12_4)))
 (.seq (.region [⟨some 96, none, .mov (.tmp 6)⟩,
  ⟨some 97, none, .call (.const (.func (.func 38) [] [])) [(.tmp 96)]⟩,
  ⟨some 13, none, .mov (.tmp 97)⟩])
 (.seq (.region [⟨some 14, none, .mov (.const (.int .i64 0))⟩])
 (.seq (.seq (.region [⟨some 15, none, .mov (.const (.int .i64 1))⟩])
 (.block 4 (.loop k12_8)))
 (.seq (.region [⟨some 133, none, .mov (.tmp 14)⟩,
  ⟨some 134, none, .mov (.tmp 8)⟩,
  ⟨some 135, none, .bin .eql (.tmp 133) (.tmp 134)⟩,
  ⟨some 136, none, .mov (.tmp 135)⟩,
  ⟨some 137, (some (136, true)), .mov (.tmp 13)⟩,
  ⟨some 138, (some (136, true)), .call (.const (.func (.func 40) [] [])) [(.tmp 137)]⟩,
  ⟨some 139, (some (136, true)), .bin .eql (.tmp 138) (.const (.int .i64 0))⟩,
  ⟨some 140, none, .pick (.tmp 136) (.tmp 139) (.const (.bool false))⟩,
  ⟨some 141, none, .mov (.tmp 140)⟩,
  ⟨some 142, (some (141, true)), .mov (.tmp 6)⟩,
  ⟨some 143, (some (141, true)), .call (.const (.func (.func 40) [] [])) [(.tmp 142)]⟩,
  ⟨some 144, (some (141, true)), .mov (.tmp 8)⟩,
  ⟨some 145, (some (141, true)), .bin .eql (.tmp 143) (.tmp 144)⟩,
  ⟨some 146, none, .pick (.tmp 141) (.tmp 145) (.const (.bool false))⟩,
  ⟨some 4, none, .mov (.tmp 146)⟩])
 .ret)))))))
theorem on_load {w : AW} {bo k : Nat} {on : List Bool} {x : Bool} (h : w.heap.get bo = some (.cells (on.map V.bool) .own)) (hk : on[k]? = some x) : w.load bo (0 + k * 1) 1 = some [.bool x] := by
  have hlt : k < on.length := (List.getElem?_eq_some_iff.1 hk).1
  have e : (on.map V.bool).drop k = .bool x :: (on.map V.bool).drop (k + 1) := by
    rw [List.drop_eq_getElem_cons (by simpa using hlt)]
    rw [List.getElem?_eq_getElem hlt] at hk
    simp only [List.getElem_map, Option.some.inj hk]
  simp only [AW.load, h, AW.alive, Nat.zero_add, Nat.mul_one, e, takeN]
theorem many_add (C : Codes tab) (hP : ∀ args aw v aw', insPrim 24 args aw = some (v, aw') → tab.prim 54 args aw v aw') {n step : Nat} {aw w : AW} {bs bo : Nat} {fr : Fr} {Q : Fr → AW → Prop} (hn0 : 0 < n) (hn : n ≤ 300) (hst : step ≤ 300) (h0 : AddI n step aw bs bo n fr w)
    (h : ∀ f w, AddI n step aw bs bo 0 f w → WS tab [.code k12r] f w Q) : WS tab [.code (.loop k12_2), .endB 0, .code k12r] fr w Q := by
  refine WS_loop (AddI n step aw bs bo) ?_ n h0
  clear h0 fr w
  rintro q f w ⟨i, k, rows, on, S, f0, f1, f6, f7, f8, f9, f10, hW, hx, hri, hi, hk, rfl⟩ ih
  by_cases hlt : i < n
  · have a1 : IntKind.wrap .i64 (Int.ofNat k + Int.ofNat step) = Int.ofNat (k + step) := wrap_add (by omega)
    have a2 : (Int.ofNat n = 0) = False := by simp; omega
    have a3 : (Int.ofNat (k + step)).tmod (Int.ofNat n) = Int.ofNat ((k + step) % n) := rfl
    refine WS_run 1000 (by simp only [go_sem, Nat.reduceAdd, Nat.reduceLT, Nat.reduceEqDiff, reduceIte, reduceCtorEq, Int.reduceBEq, Int.reduceBNe, Int.reduceLT, Int.reduceLE, Int.reduceGT, Int.reduceGE, Int.reduceEq, Int.reduceAdd, Int.reduceSub, Int.reduceMul, Nat.reduceMul, Nat.reduceSub, Nat.reduceLeDiff, k12_2, k12_1, f0, f1, f6, f7, f8, f9, f10, hlt, a1, a2, a3]; rfl) ?_
    generalize hkk : (k + step) % n = k'
    have hk' : k' < n := by rw [← hkk]; exact Nat.mod_lt _ hn0
    have b1 : ((10 : Int) = 0) = False := by simp
    have b2 : (Int.ofNat k').tdiv 10 = Int.ofNat (k' / 10) := rfl
    have b3 : IntKind.wrap .i64 (Int.ofNat (k' / 10)) = Int.ofNat (k' / 10) := wrap_id (by have : Int.ofNat (k' / 10) = ((k' / 10 : Nat) : Int) := rfl; omega) (by have : Int.ofNat (k' / 10) = ((k' / 10 : Nat) : Int) := rfl; omega)
    have b4 : IntKind.wrap .i64 (Int.ofNat (k' / 10) + 1) = Int.ofNat (k' / 10 + 1) := wrap_succ (by omega)
    have b5 : (Int.ofNat k').tmod 10 = Int.ofNat (k' % 10) := rfl
    have b6 : IntKind.wrap .i64 (Int.ofNat (k' % 10) + 1) = Int.ofNat (k' % 10 + 1) := wrap_succ (by omega)
    refine WS_drawn ?_
    refine WDs_run 100 (by simp only [go_sem, Nat.reduceAdd, Nat.reduceLT, Nat.reduceEqDiff, reduceIte, reduceCtorEq, Int.reduceBEq, Int.reduceBNe, Int.reduceLT, Int.reduceLE, Int.reduceGT, Int.reduceGE, Int.reduceEq, Int.reduceAdd, Int.reduceSub, Int.reduceMul, Nat.reduceMul, Nat.reduceSub, Nat.reduceLeDiff, f0, f1, f6, f7, f8, f9, f10, b1, b2, b3, b4, b5, b6, evParts, fillV, over, List.length_cons, List.length_nil]; rfl) ?_
    refine WDs_call (by simp only [go_sem, Nat.reduceAdd, Nat.reduceLT, Nat.reduceEqDiff, reduceIte, reduceCtorEq, Int.reduceBEq, Int.reduceBNe, Int.reduceLT, Int.reduceLE, Int.reduceGT, Int.reduceGE, Int.reduceEq, Int.reduceAdd, Int.reduceSub, Int.reduceMul, Nat.reduceMul, Nat.reduceSub, Nat.reduceLeDiff]) (by simp only [go_sem, Nat.reduceAdd, Nat.reduceLT, Nat.reduceEqDiff, reduceIte, reduceCtorEq, Int.reduceBEq, Int.reduceBNe, Int.reduceLT, Int.reduceLE, Int.reduceGT, Int.reduceGE, Int.reduceEq, Int.reduceAdd, Int.reduceSub, Int.reduceMul, Nat.reduceMul, Nat.reduceSub, Nat.reduceLeDiff]; rfl) ?_
    have hf : Frm (fun _ => False) w (w.fresh [.int .i64 (Int.ofNat (k' / 10 + 1)), .int .i64 (Int.ofNat (k' % 10 + 1))]) := Frm.new _ _
    have hc : k' < 300 := by omega
    have on1 := hW.at_ k' hc
    have l0 := on_load hW.hon on1
    have hon1 : (w.fresh [.int .i64 (Int.ofNat (k' / 10 + 1)), .int .i64 (Int.ofNat (k' % 10 + 1))]).heap.get bo = some (.cells (on.map V.bool) .own) := (hf.heap _ hW.lo fun h => h).trans hW.hon
    have l1 := on_load hon1 on1
    have hrow : RowV (fun b => b = w.next) (w.fresh [.int .i64 (Int.ofNat (k' / 10 + 1)), .int .i64 (Int.ofNat (k' % 10 + 1))]) (.slice w.next 0 2 (.known 2)) (rowOf k') := .blk rfl (Nat.lt_succ_self _) AE.T.get_put_same rfl
    have hrl : (rowOf k').length = 2 := rfl
    refine add_ok C hP (hW.set.frm hf fun _ _ h => h) hrow (by omega) (by omega) ?_ ?_
    · intro hno
      have hm : rowOf k' ∈ rows := Decidable.byContradiction fun h => hno ⟨hrl, h⟩
      rw [decide_eq_true hm] at on1 l0 l1
      refine WDs_run 100 (by simp only [go_sem, Nat.reduceAdd, Nat.reduceLT, Nat.reduceEqDiff, reduceIte, reduceCtorEq, Int.reduceBEq, Int.reduceBNe, Int.reduceLT, Int.reduceLE, Int.reduceGT, Int.reduceGE, Int.reduceEq, Int.reduceAdd, Int.reduceSub, Int.reduceMul, Nat.reduceMul, Nat.reduceSub, Nat.reduceLeDiff, f0, f1, f6, f7, f8, f9, f10, hc, l0, l1, eqV]; rfl) ?_
      refine WDs_nil ⟨(show chkAll _ _ [(11, 7), (11, 8)] from by simp only [go_sem, Nat.reduceAdd, Nat.reduceLT, Nat.reduceEqDiff, reduceIte, reduceCtorEq, Int.reduceBEq, Int.reduceBNe, Int.reduceLT, Int.reduceLE, Int.reduceGT, Int.reduceGE, Int.reduceEq, Int.reduceAdd, Int.reduceSub, Int.reduceMul, Nat.reduceMul, Nat.reduceSub, Nat.reduceLeDiff, chkAll, chk, List.reverse_cons, List.reverse_nil, mkStp_fe, mkStp_v, mkStp_0, mkStp_1, List.getElem?_nil, false_or, or_true, or_false, exists_eq', Option.some.injEq, Prod.mk.injEq, Bool.true_eq_false, Bool.false_eq_true, and_true, true_and, implies_true,  l0, l1]), ?_⟩
      have hwr : IntKind.wrap .i64 (Int.ofNat i + 1) = Int.ofNat (i + 1) := wrap_succ (by omega)
      refine WS_run 1000 (by simp only [go_sem, Nat.reduceAdd, Nat.reduceLT, Nat.reduceEqDiff, reduceIte, reduceCtorEq, Int.reduceBEq, Int.reduceBNe, Int.reduceLT, Int.reduceLE, Int.reduceGT, Int.reduceGE, Int.reduceEq, Int.reduceAdd, Int.reduceSub, Int.reduceMul, Nat.reduceMul, Nat.reduceSub, Nat.reduceLeDiff, f0, f1, f6, f7, f8, f9, f10, hc, l1, hwr]; rfl) ?_
      refine ih (n - (i + 1)) _ _ (by omega) ⟨i + 1, k', rows, on, S, (by simp only [go_sem, Nat.reduceAdd, Nat.reduceLT, Nat.reduceEqDiff, reduceIte, reduceCtorEq, Int.reduceBEq, Int.reduceBNe, Int.reduceLT, Int.reduceLE, Int.reduceGT, Int.reduceGE, Int.reduceEq, Int.reduceAdd, Int.reduceSub, Int.reduceMul, Nat.reduceMul, Nat.reduceSub, Nat.reduceLeDiff, f0] <;> rfl), (by simp only [go_sem, Nat.reduceAdd, Nat.reduceLT, Nat.reduceEqDiff, reduceIte, reduceCtorEq, Int.reduceBEq, Int.reduceBNe, Int.reduceLT, Int.reduceLE, Int.reduceGT, Int.reduceGE, Int.reduceEq, Int.reduceAdd, Int.reduceSub, Int.reduceMul, Nat.reduceMul, Nat.reduceSub, Nat.reduceLeDiff, f1] <;> rfl), (by simp only [go_sem, Nat.reduceAdd, Nat.reduceLT, Nat.reduceEqDiff, reduceIte, reduceCtorEq, Int.reduceBEq, Int.reduceBNe, Int.reduceLT, Int.reduceLE, Int.reduceGT, Int.reduceGE, Int.reduceEq, Int.reduceAdd, Int.reduceSub, Int.reduceMul, Nat.reduceMul, Nat.reduceSub, Nat.reduceLeDiff, f6] <;> rfl), (by simp only [go_sem, Nat.reduceAdd, Nat.reduceLT, Nat.reduceEqDiff, reduceIte, reduceCtorEq, Int.reduceBEq, Int.reduceBNe, Int.reduceLT, Int.reduceLE, Int.reduceGT, Int.reduceGE, Int.reduceEq, Int.reduceAdd, Int.reduceSub, Int.reduceMul, Nat.reduceMul, Nat.reduceSub, Nat.reduceLeDiff] <;> rfl), (by simp only [go_sem, Nat.reduceAdd, Nat.reduceLT, Nat.reduceEqDiff, reduceIte, reduceCtorEq, Int.reduceBEq, Int.reduceBNe, Int.reduceLT, Int.reduceLE, Int.reduceGT, Int.reduceGE, Int.reduceEq, Int.reduceAdd, Int.reduceSub, Int.reduceMul, Nat.reduceMul, Nat.reduceSub, Nat.reduceLeDiff, f8] <;> rfl), (by simp only [go_sem, Nat.reduceAdd, Nat.reduceLT, Nat.reduceEqDiff, reduceIte, reduceCtorEq, Int.reduceBEq, Int.reduceBNe, Int.reduceLT, Int.reduceLE, Int.reduceGT, Int.reduceGE, Int.reduceEq, Int.reduceAdd, Int.reduceSub, Int.reduceMul, Nat.reduceMul, Nat.reduceSub, Nat.reduceLeDiff, f9] <;> rfl), (by simp only [go_sem, Nat.reduceAdd, Nat.reduceLT, Nat.reduceEqDiff, reduceIte, reduceCtorEq, Int.reduceBEq, Int.reduceBNe, Int.reduceLT, Int.reduceLE, Int.reduceGT, Int.reduceGE, Int.reduceEq, Int.reduceAdd, Int.reduceSub, Int.reduceMul, Nat.reduceMul, Nat.reduceSub, Nat.reduceLeDiff] <;> rfl), ⟨hW.set.frm hf fun _ _ h => h, hon1, hW.nS, Nat.lt_succ_of_lt hW.lo, hW.bN, fun x hx => ⟨(hW.SN x hx).1, Nat.lt_succ_of_lt (hW.SN x hx).2⟩, hW.len, hW.at_, hW.mem⟩, hx.trans (hf.ext hx.le' fun _ h => h.elim), by omega, by omega, by omega, rfl⟩
    · intro _ hm w2 S2 q1 q2 q3
      rw [decide_eq_false hm] at on1 l0 l1
      have hlo1 : bo < (w.fresh [.int .i64 (Int.ofNat (k' / 10 + 1)), .int .i64 (Int.ofNat (k' % 10 + 1))]).next := Nat.lt_succ_of_lt hW.lo
      have hon2 : w2.heap.get bo = some (.cells (on.map V.bool) .own) := (q2.heap _ hlo1 hW.nS).trans hon1
      have l2 := on_load hon2 on1
      refine WDs_run 100 (by simp only [go_sem, Nat.reduceAdd, Nat.reduceLT, Nat.reduceEqDiff, reduceIte, reduceCtorEq, Int.reduceBEq, Int.reduceBNe, Int.reduceLT, Int.reduceLE, Int.reduceGT, Int.reduceGE, Int.reduceEq, Int.reduceAdd, Int.reduceSub, Int.reduceMul, Nat.reduceMul, Nat.reduceSub, Nat.reduceLeDiff, f0, f1, f6, f7, f8, f9, f10, hc, l0, l1, l2, eqV]; rfl) ?_
      refine WDs_nil ⟨(show chkAll _ _ [(11, 7), (11, 8)] from by simp only [go_sem, Nat.reduceAdd, Nat.reduceLT, Nat.reduceEqDiff, reduceIte, reduceCtorEq, Int.reduceBEq, Int.reduceBNe, Int.reduceLT, Int.reduceLE, Int.reduceGT, Int.reduceGE, Int.reduceEq, Int.reduceAdd, Int.reduceSub, Int.reduceMul, Nat.reduceMul, Nat.reduceSub, Nat.reduceLeDiff, chkAll, chk, List.reverse_cons, List.reverse_nil, mkStp_fe, mkStp_v, mkStp_0, mkStp_1, List.getElem?_nil, false_or, or_true, or_false, exists_eq', Option.some.injEq, Prod.mk.injEq, Bool.true_eq_false, Bool.false_eq_true, and_true, true_and, implies_true,  l0, l1, l2]), ?_⟩
      have hwr : IntKind.wrap .i64 (Int.ofNat i + 1) = Int.ofNat (i + 1) := wrap_succ (by omega)
      have hwm : IntKind.wrap .i64 (Int.ofNat rows.length + 1) = Int.ofNat (rows.length + 1) := wrap_succ (by omega)
      have hst2 := store_cell (i := k') (v := .bool true) hon2 (by simp [hW.len]; omega) rfl
      have ez : (0 + k' * 1) = k' := by omega
      rw [ez] at l2
      refine WS_run 1000 (by simp only [go_sem, Nat.reduceAdd, Nat.reduceLT, Nat.reduceEqDiff, reduceIte, reduceCtorEq, Int.reduceBEq, Int.reduceBNe, Int.reduceLT, Int.reduceLE, Int.reduceGT, Int.reduceGE, Int.reduceEq, Int.reduceAdd, Int.reduceSub, Int.reduceMul, Nat.reduceMul, Nat.reduceSub, Nat.reduceLeDiff, k12_0, f0, f1, f6, f7, f8, f9, f10, hc, ez, l2, hwr, hwm, hst2]; rfl) ?_
      have hlen' : (insR rows (rowOf k')).length = rows.length + 1 := by
        have := posn_le rows (rowOf k')
        simp [insR]; omega
      have hturn : Frm (fun b => b = bo) w2 (w2.turn bo (.cells ((on.map V.bool).set k' (.bool true)) .own)) := turn_frm rfl (.inl rfl)
      have hnx : (w.fresh [.int .i64 (Int.ofNat (k' / 10 + 1)), .int .i64 (Int.ofNat (k' % 10 + 1))]).next = w.next + 1 := rfl
      have hn2 := q2.next
      have hS2 : ∀ x, S2 x → aw.next ≤ x ∧ x < w2.next ∧ x ≠ bo := by
        intro x hx2
        obtain ⟨m1, m2⟩ := q3 x hx2
        have hle := hx.le'
        have hlo := hW.lo
        rcases m2 with m2 | m2
        · exact ⟨(hW.SN x m2).1, m1, fun e => hW.nS (e ▸ m2)⟩
        · exact ⟨by omega, m1, by omega⟩
      refine ih (n - (i + 1)) _ _ (by omega) ⟨i + 1, k', insR rows (rowOf k'), on.set k' true, S2, (by simp only [go_sem, Nat.reduceAdd, Nat.reduceLT, Nat.reduceEqDiff, reduceIte, reduceCtorEq, Int.reduceBEq, Int.reduceBNe, Int.reduceLT, Int.reduceLE, Int.reduceGT, Int.reduceGE, Int.reduceEq, Int.reduceAdd, Int.reduceSub, Int.reduceMul, Nat.reduceMul, Nat.reduceSub, Nat.reduceLeDiff, f0] <;> rfl), (by simp only [go_sem, Nat.reduceAdd, Nat.reduceLT, Nat.reduceEqDiff, reduceIte, reduceCtorEq, Int.reduceBEq, Int.reduceBNe, Int.reduceLT, Int.reduceLE, Int.reduceGT, Int.reduceGE, Int.reduceEq, Int.reduceAdd, Int.reduceSub, Int.reduceMul, Nat.reduceMul, Nat.reduceSub, Nat.reduceLeDiff, f1] <;> rfl), (by simp only [go_sem, Nat.reduceAdd, Nat.reduceLT, Nat.reduceEqDiff, reduceIte, reduceCtorEq, Int.reduceBEq, Int.reduceBNe, Int.reduceLT, Int.reduceLE, Int.reduceGT, Int.reduceGE, Int.reduceEq, Int.reduceAdd, Int.reduceSub, Int.reduceMul, Nat.reduceMul, Nat.reduceSub, Nat.reduceLeDiff, f6] <;> rfl), (by simp only [go_sem, Nat.reduceAdd, Nat.reduceLT, Nat.reduceEqDiff, reduceIte, reduceCtorEq, Int.reduceBEq, Int.reduceBNe, Int.reduceLT, Int.reduceLE, Int.reduceGT, Int.reduceGE, Int.reduceEq, Int.reduceAdd, Int.reduceSub, Int.reduceMul, Nat.reduceMul, Nat.reduceSub, Nat.reduceLeDiff] <;> rfl), ?_, (by simp only [go_sem, Nat.reduceAdd, Nat.reduceLT, Nat.reduceEqDiff, reduceIte, reduceCtorEq, Int.reduceBEq, Int.reduceBNe, Int.reduceLT, Int.reduceLE, Int.reduceGT, Int.reduceGE, Int.reduceEq, Int.reduceAdd, Int.reduceSub, Int.reduceMul, Nat.reduceMul, Nat.reduceSub, Nat.reduceLeDiff, f9] <;> rfl), (by simp only [go_sem, Nat.reduceAdd, Nat.reduceLT, Nat.reduceEqDiff, reduceIte, reduceCtorEq, Int.reduceBEq, Int.reduceBNe, Int.reduceLT, Int.reduceLE, Int.reduceGT, Int.reduceGE, Int.reduceEq, Int.reduceAdd, Int.reduceSub, Int.reduceMul, Nat.reduceMul, Nat.reduceSub, Nat.reduceLeDiff] <;> rfl), ⟨q1.frm hturn fun x hx e => (hS2 x hx).2.2 e, ?_, fun h => (hS2 bo h).2.2 rfl, by show bo < w2.next; omega, hW.bN, fun x hx => ⟨(hS2 x hx).1, (hS2 x hx).2.1⟩, by simp [hW.len], ?_, ?_⟩, ?_, by omega, by omega, by omega, rfl⟩
      · rw [hlen']; exact (by simp only [go_sem, Nat.reduceAdd, Nat.reduceLT, Nat.reduceEqDiff, reduceIte, reduceCtorEq, Int.reduceBEq, Int.reduceBNe, Int.reduceLT, Int.reduceLE, Int.reduceGT, Int.reduceGE, Int.reduceEq, Int.reduceAdd, Int.reduceSub, Int.reduceMul, Nat.reduceMul, Nat.reduceSub, Nat.reduceLeDiff] <;> rfl)
      · rw [List.map_set]; exact AE.T.get_put_same
      · intro j hj
        by_cases hjk : j = k'
        · subst hjk
          rw [List.getElem?_set_self (by rw [hW.len]; exact hj), decide_eq_true (mem_ins.2 (.inl rfl))]
        · rw [List.getElem?_set_ne (Ne.symm hjk), hW.at_ j hj]
          congr 2
          rw [mem_ins]
          apply propext
          constructor
          · exact .inr
          · rintro (h | h)
            · exact absurd (rowOf_inj h) hjk
            · exact h
      · intro y hy
        rcases mem_ins.1 hy with rfl | hy
        · exact ⟨k', hc, rfl⟩
        · exact hW.mem y hy
      · refine ((hx.trans (hf.ext hx.le' fun _ h => h.elim)).trans (q2.ext (by have := hx.le'; omega) fun x h => (hW.SN x h).1)).trans (hturn.ext (by have := hx.le'; omega) fun x h => ?_)
        subst h; exact hW.bN
  · have : i = n := by omega
    subst this
    refine WS_runB 9 (by simp only [go_sem, Nat.reduceAdd, Nat.reduceLT, Nat.reduceEqDiff, reduceIte, reduceCtorEq, Int.reduceBEq, Int.reduceBNe, Int.reduceLT, Int.reduceLE, Int.reduceGT, Int.reduceGE, Int.reduceEq, Int.reduceAdd, Int.reduceSub, Int.reduceMul, Nat.reduceMul, Nat.reduceSub, Nat.reduceLeDiff, k12_2, f0, f1, f6, f7, f8, f9, f10, hlt]; rfl) ?_
    exact h _ _ ⟨i, k, rows, on, S, (by simp only [go_sem, Nat.reduceAdd, Nat.reduceLT, Nat.reduceEqDiff, reduceIte, reduceCtorEq, Int.reduceBEq, Int.reduceBNe, Int.reduceLT, Int.reduceLE, Int.reduceGT, Int.reduceGE, Int.reduceEq, Int.reduceAdd, Int.reduceSub, Int.reduceMul, Nat.reduceMul, Nat.reduceSub, Nat.reduceLeDiff, f0] <;> rfl), (by simp only [go_sem, Nat.reduceAdd, Nat.reduceLT, Nat.reduceEqDiff, reduceIte, reduceCtorEq, Int.reduceBEq, Int.reduceBNe, Int.reduceLT, Int.reduceLE, Int.reduceGT, Int.reduceGE, Int.reduceEq, Int.reduceAdd, Int.reduceSub, Int.reduceMul, Nat.reduceMul, Nat.reduceSub, Nat.reduceLeDiff, f1] <;> rfl), (by simp only [go_sem, Nat.reduceAdd, Nat.reduceLT, Nat.reduceEqDiff, reduceIte, reduceCtorEq, Int.reduceBEq, Int.reduceBNe, Int.reduceLT, Int.reduceLE, Int.reduceGT, Int.reduceGE, Int.reduceEq, Int.reduceAdd, Int.reduceSub, Int.reduceMul, Nat.reduceMul, Nat.reduceSub, Nat.reduceLeDiff, f6] <;> rfl), (by simp only [go_sem, Nat.reduceAdd, Nat.reduceLT, Nat.reduceEqDiff, reduceIte, reduceCtorEq, Int.reduceBEq, Int.reduceBNe, Int.reduceLT, Int.reduceLE, Int.reduceGT, Int.reduceGE, Int.reduceEq, Int.reduceAdd, Int.reduceSub, Int.reduceMul, Nat.reduceMul, Nat.reduceSub, Nat.reduceLeDiff, f7] <;> rfl), (by simp only [go_sem, Nat.reduceAdd, Nat.reduceLT, Nat.reduceEqDiff, reduceIte, reduceCtorEq, Int.reduceBEq, Int.reduceBNe, Int.reduceLT, Int.reduceLE, Int.reduceGT, Int.reduceGE, Int.reduceEq, Int.reduceAdd, Int.reduceSub, Int.reduceMul, Nat.reduceMul, Nat.reduceSub, Nat.reduceLeDiff, f8] <;> rfl), (by simp only [go_sem, Nat.reduceAdd, Nat.reduceLT, Nat.reduceEqDiff, reduceIte, reduceCtorEq, Int.reduceBEq, Int.reduceBNe, Int.reduceLT, Int.reduceLE, Int.reduceGT, Int.reduceGE, Int.reduceEq, Int.reduceAdd, Int.reduceSub, Int.reduceMul, Nat.reduceMul, Nat.reduceSub, Nat.reduceLeDiff, f9] <;> rfl), (by simp only [go_sem, Nat.reduceAdd, Nat.reduceLT, Nat.reduceEqDiff, reduceIte, reduceCtorEq, Int.reduceBEq, Int.reduceBNe, Int.reduceLT, Int.reduceLE, Int.reduceGT, Int.reduceGE, Int.reduceEq, Int.reduceAdd, Int.reduceSub, Int.reduceMul, Nat.reduceMul, Nat.reduceSub, Nat.reduceLeDiff, f10] <;> rfl), hW, hx, hri, hi, hk, by omega⟩
end Go.Proofs.Ytjidefnbancmfaa
