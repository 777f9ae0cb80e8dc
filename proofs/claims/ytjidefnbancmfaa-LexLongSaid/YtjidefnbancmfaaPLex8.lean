/- A part of the proof. -/
import Derived.Test.YtjidefnbancmfaaPLex7
set_option linter.unusedVariables false
set_option linter.unusedSimpArgs false
namespace Go.Proofs.Ytjidefnbancmfaa
open Go.AE Delphi
variable {tab : Tab}
def k7e : ACode := (.seq (.seq (.region [⟨some 68, none, .mov (.tmp 11)⟩,
  ⟨some 69, none, .bin .eql (.tmp 68) (.const (.int .i64 8))⟩,
  ⟨some 70, none, .mov (.tmp 0)⟩,
  ⟨some 71, none, .bin .gtr (.tmp 70) (.const (.int .i64 4000))⟩,
  ⟨some 72, none, .eqv true .bool (.tmp 69) (.tmp 71)⟩,
  ⟨some 73, none, .mov (.tmp 72)⟩,
  ⟨some 74, (some (73, false)), .mov (.tmp 0)⟩,
  ⟨some 75, (some (73, false)), .bin .leq (.tmp 74) (.const (.int .i64 4000))⟩,
  ⟨some 76, (some (73, false)), .mov (.tmp 75)⟩,
  ⟨some 77, (some (76, true)), .mov (.tmp 11)⟩,
  ⟨some 78, (some (76, true)), .bin .neq (.tmp 77) (.const (.int .i64 0))⟩,
  ⟨some 79, (some (73, false)), .pick (.tmp 76) (.tmp 78) (.const (.bool false))⟩,
  ⟨some 80, none, .pick (.tmp 73) (.const (.bool true)) (.tmp 79)⟩])
 (.cond (.tmp 80) (.seq (.region [⟨some 6, none, .mov (.const (.bool false))⟩])
 .ret) .skip))
 (.seq (.seq (.region [⟨some 81, none, .mov (.tmp 1)⟩,
  ⟨some 82, none, .bin .gtr (.tmp 81) (.const (.int .i64 16))⟩])
 (.cond (.tmp 82) k7_3 .skip))
 (.seq (.region [⟨some 90, none, .mov (.tmp 15)⟩,
  ⟨some 91, none, .bin .eql (.tmp 90) (.const (.int .i64 0))⟩,
  ⟨some 92, none, .mov (.tmp 91)⟩,
  ⟨some 93, (some (92, true)), .mov (.tmp 14)⟩,
  ⟨some 94, (some (92, true)), .lenSl (.tmp 93)⟩,
  ⟨some 95, (some (92, true)), .bin .eql (.tmp 94) (.const (.int .i64 1))⟩,
  ⟨some 96, none, .pick (.tmp 92) (.tmp 95) (.const (.bool false))⟩,
  ⟨some 97, none, .mov (.tmp 96)⟩,
  ⟨some 98, (some (97, true)), .mov (.tmp 14)⟩,
  ⟨some 99, (some (97, true)), .indexAddr 3 (.tmp 98) (.const (.int .i64 0))⟩,
  ⟨some 100, (some (97, true)), .fieldAddr 1 (.tmp 99)⟩,
  ⟨some 101, (some (97, true)), .load 1 false (.tmp 100)⟩,
  ⟨some 102, (some (97, true)), .mov (.tmp 12)⟩,
  ⟨some 103, (some (97, true)), .bin .eql (.tmp 101) (.tmp 102)⟩,
  ⟨some 104, none, .pick (.tmp 97) (.tmp 103) (.const (.bool false))⟩,
  ⟨some 6, none, .mov (.tmp 104)⟩])
 .ret)))
def LongEnd (aw : AW) (fr' : Fr) (aw' : AW) : Prop := ∃ vs, resV fr' aw' k7.results = some vs ∧ resOne vs = .bool true ∧ Ext aw.next aw aw'
/-- what is looked at in the end. -/
theorem long_end {aw w : AW} {m k x : Nat} {fr : Fr} (hx0 : Ext aw.next aw w) (hx : x = 97 ∨ x = 65 ∨ x = 55)
    (f0 : fr.get 0 = some (.int .i64 (Int.ofNat m))) (f1 : fr.get 1 = some (.int .i64 (Int.ofNat (k + 1)))) (f11 : fr.get 11 = some (.int .i64 (if 4000 < m then 8 else 0))) (f12 : fr.get 12 = some (.str (List.replicate (k + 1) x))) :
    (16 < k + 1 → fr.get 14 = some .nilslice → fr.get 15 = some (.int .i64 4) → WS tab [.code k7e] fr w (LongEnd aw)) ∧
    (¬ 16 < k + 1 → ∀ v, Own aw.next w v 3 1 (wdsCells [⟨letterKind x, List.replicate (k + 1) x, 0⟩]) → fr.get 14 = some v → fr.get 15 = some (.int .i64 0) → WS tab [.code k7e] fr w (LongEnd aw)) := by
  refine ⟨fun h16 f14 f15 => ?_, fun h16 v ho f14 f15 => ?_⟩
  · by_cases hm : 4000 < m
    · rw [if_pos hm] at f11
      have hm2 : ¬ m ≤ 4000 := by omega
      refine WS_run 1000 (by simp only [go_sem, Nat.reduceAdd, Nat.reduceLT, Nat.reduceEqDiff, reduceIte, reduceCtorEq, Int.reduceBEq, Int.reduceBNe, Int.reduceLT, Int.reduceLE, Int.reduceGT, Int.reduceGE, Int.reduceEq, Int.reduceAdd, Int.reduceSub, Int.reduceMul, Nat.reduceMul, Nat.reduceSub, Nat.reduceLeDiff, k7e, k7_3, f0, f1, f11, f12, f14, f15, hm, hm2, h16, eqV, bne]; rfl) ?_
      refine WS_ret ⟨_, by simp only [go_sem, Nat.reduceAdd, Nat.reduceLT, Nat.reduceEqDiff, reduceIte, reduceCtorEq, Int.reduceBEq, Int.reduceBNe, Int.reduceLT, Int.reduceLE, Int.reduceGT, Int.reduceGE, Int.reduceEq, Int.reduceAdd, Int.reduceSub, Int.reduceMul, Nat.reduceMul, Nat.reduceSub, Nat.reduceLeDiff, k7]; rfl, ?_⟩
      exact ⟨rfl, hx0⟩
    · rw [if_neg hm] at f11
      have hm2 : m ≤ 4000 := by omega
      refine WS_run 1000 (by simp only [go_sem, Nat.reduceAdd, Nat.reduceLT, Nat.reduceEqDiff, reduceIte, reduceCtorEq, Int.reduceBEq, Int.reduceBNe, Int.reduceLT, Int.reduceLE, Int.reduceGT, Int.reduceGE, Int.reduceEq, Int.reduceAdd, Int.reduceSub, Int.reduceMul, Nat.reduceMul, Nat.reduceSub, Nat.reduceLeDiff, k7e, k7_3, f0, f1, f11, f12, f14, f15, hm, hm2, h16, eqV, bne]; rfl) ?_
      refine WS_ret ⟨_, by simp only [go_sem, Nat.reduceAdd, Nat.reduceLT, Nat.reduceEqDiff, reduceIte, reduceCtorEq, Int.reduceBEq, Int.reduceBNe, Int.reduceLT, Int.reduceLE, Int.reduceGT, Int.reduceGE, Int.reduceEq, Int.reduceAdd, Int.reduceSub, Int.reduceMul, Nat.reduceMul, Nat.reduceSub, Nat.reduceLeDiff, k7]; rfl, ?_⟩
      exact ⟨rfl, hx0⟩
  · rcases ho.inv with ⟨rfl, h0, hc⟩ | ⟨b1, rfl, hn1⟩
    · omega
    · have a1 := ho.part (l := [⟨letterKind x, List.replicate (k + 1) x, 0⟩]) (i := 0) (j := 1) (k := 1) wdCells_len rfl (by omega)
      simp only [wdCells, List.drop_zero, List.drop_succ_cons, List.take_succ_cons, List.take_zero] at a1
      have el : ∀ t : List Nat, eqL t t = true := fun t => eqL_iff.2 rfl
      by_cases hm : 4000 < m
      · rw [if_pos hm] at f11
        have hm2 : ¬ m ≤ 4000 := by omega
        refine WS_run 1000 (by simp only [go_sem, Nat.reduceAdd, Nat.reduceLT, Nat.reduceEqDiff, reduceIte, reduceCtorEq, Int.reduceBEq, Int.reduceBNe, Int.reduceLT, Int.reduceLE, Int.reduceGT, Int.reduceGE, Int.reduceEq, Int.reduceAdd, Int.reduceSub, Int.reduceMul, Nat.reduceMul, Nat.reduceSub, Nat.reduceLeDiff, k7e, k7_3, f0, f1, f11, f12, f14, f15, hm, hm2, h16, eqV, bne, a1, strS, el]; rfl) ?_
        refine WS_ret ⟨_, by simp only [go_sem, Nat.reduceAdd, Nat.reduceLT, Nat.reduceEqDiff, reduceIte, reduceCtorEq, Int.reduceBEq, Int.reduceBNe, Int.reduceLT, Int.reduceLE, Int.reduceGT, Int.reduceGE, Int.reduceEq, Int.reduceAdd, Int.reduceSub, Int.reduceMul, Nat.reduceMul, Nat.reduceSub, Nat.reduceLeDiff, k7]; rfl, ?_⟩
        exact ⟨rfl, hx0⟩
      · rw [if_neg hm] at f11
        have hm2 : m ≤ 4000 := by omega
        refine WS_run 1000 (by simp only [go_sem, Nat.reduceAdd, Nat.reduceLT, Nat.reduceEqDiff, reduceIte, reduceCtorEq, Int.reduceBEq, Int.reduceBNe, Int.reduceLT, Int.reduceLE, Int.reduceGT, Int.reduceGE, Int.reduceEq, Int.reduceAdd, Int.reduceSub, Int.reduceMul, Nat.reduceMul, Nat.reduceSub, Nat.reduceLeDiff, k7e, k7_3, f0, f1, f11, f12, f14, f15, hm, hm2, h16, eqV, bne, a1, strS, el]; rfl) ?_
        refine WS_ret ⟨_, by simp only [go_sem, Nat.reduceAdd, Nat.reduceLT, Nat.reduceEqDiff, reduceIte, reduceCtorEq, Int.reduceBEq, Int.reduceBNe, Int.reduceLT, Int.reduceLE, Int.reduceGT, Int.reduceGE, Int.reduceEq, Int.reduceAdd, Int.reduceSub, Int.reduceMul, Nat.reduceMul, Nat.reduceSub, Nat.reduceLeDiff, k7]; rfl, ?_⟩
        exact ⟨rfl, hx0⟩
end Go.Proofs.Ytjidefnbancmfaa
