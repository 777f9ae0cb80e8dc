/- A part of the proof. -/
import Derived.Test.YtjidefnbancmfaaPLex4
set_option linter.unusedVariables false
set_option linter.unusedSimpArgs false
namespace Go.Proofs.Ytjidefnbancmfaa
open Go.AE Delphi
variable {tab : Tab}
theorem cut_ok (C : Codes tab) {s : List Nat} {n : Nat} {aw : AW} {K : V → AW → Prop} (h : K (.str (s.take n)) aw) : WF tab 24 [.str s, .int .i64 (Int.ofNat n)] aw K := by
  refine WF_of C.c24 rfl ?_
  by_cases hl : n < s.length
  · have h1 : n ≤ s.length := by omega
    refine WS_run 1000 (by simp only [go_sem, Nat.reduceAdd, Nat.reduceLT, Nat.reduceEqDiff, reduceIte, reduceCtorEq, k24, hl, h1, Nat.zero_le, List.drop_zero, Nat.sub_zero]; rfl) ?_
    refine WS_ret ⟨_, by simp only [go_sem, Nat.reduceAdd, Nat.reduceLT, Nat.reduceEqDiff, reduceIte, reduceCtorEq, k24]; rfl, ?_⟩
    exact h
  · refine WS_run 1000 (by simp only [go_sem, Nat.reduceAdd, Nat.reduceLT, Nat.reduceEqDiff, reduceIte, reduceCtorEq, k24, hl]; rfl) ?_
    refine WS_ret ⟨_, by simp only [go_sem, Nat.reduceAdd, Nat.reduceLT, Nat.reduceEqDiff, reduceIte, reduceCtorEq, k24]; rfl, ?_⟩
    rw [List.take_of_length_le (by omega)] at h
    exact h
theorem wdCells_len (x : Wd) : (wdCells x).length = 3 := rfl
/-- what is told of a law's beginning. -/
def Begun (tab : Tab) (f : Nat) : Prop := ∀ aw, CallR tab f [] aw (.bool true) aw
set_option maxRecDepth 10000 in
theorem lexScan_law (C : Codes tab) (E : ExtIdx tab) (B : Begun tab 23) {s : List Nat} {aw : AW} (hb : ∀ x ∈ s, x < 256) : WF tab 6 [.str s] aw (fun v aw' => v = .bool true ∧ Ext aw.next aw aw') := by
  refine WF_of C.c6 rfl ?_
  refine WS_run 1000 (by simp only [go_sem, Nat.reduceAdd, Nat.reduceLT, Nat.reduceEqDiff, reduceIte, reduceCtorEq, k6]; rfl) ?_
  refine WS_call (by simp only [go_sem, Nat.reduceAdd, Nat.reduceLT, Nat.reduceEqDiff, reduceIte, reduceCtorEq]) (by simp only [go_sem, Nat.reduceAdd, Nat.reduceLT, Nat.reduceEqDiff, reduceIte, reduceCtorEq]; rfl) ?_
  refine ⟨_, _, B aw, ?_⟩
  refine WS_run 1000 (by simp only [go_sem, Nat.reduceAdd, Nat.reduceLT, Nat.reduceEqDiff, reduceIte, reduceCtorEq]; rfl) ?_
  refine WS_call (by simp only [go_sem, Nat.reduceAdd, Nat.reduceLT, Nat.reduceEqDiff, reduceIte, reduceCtorEq]) (by simp only [go_sem, Nat.reduceAdd, Nat.reduceLT, Nat.reduceEqDiff, reduceIte, reduceCtorEq]; rfl) ?_
  refine cut_ok (n := 400) C ?_
  generalize hs' : s.take 400 = s'
  have hl' : s'.length ≤ 400 := by rw [← hs']; simp; omega
  have hb' : ∀ x ∈ s', x < 256 := fun x hx => hb x (List.mem_of_mem_take (hs' ▸ hx))
  refine WS_run 1000 (by simp only [go_sem, Nat.reduceAdd, Nat.reduceLT, Nat.reduceEqDiff, reduceIte, reduceCtorEq]; rfl) ?_
  refine WS_call (by simp only [go_sem, Nat.reduceAdd, Nat.reduceLT, Nat.reduceEqDiff, reduceIte, reduceCtorEq]) (by simp only [go_sem, Nat.reduceAdd, Nat.reduceLT, Nat.reduceEqDiff, reduceIte, reduceCtorEq]; rfl) ?_
  refine lexScan_ok C E hb' (by omega) (fun h => by omega) ?_ ?_
  · intro _ hok w1 hx1
    refine WS_run 1000 (by simp only [go_sem, Nat.reduceAdd, Nat.reduceLT, Nat.reduceEqDiff, reduceIte, reduceCtorEq]; rfl) ?_
    refine WS_call (by simp only [go_sem, Nat.reduceAdd, Nat.reduceLT, Nat.reduceEqDiff, reduceIte, reduceCtorEq]) (by simp only [go_sem, Nat.reduceAdd, Nat.reduceLT, Nat.reduceEqDiff, reduceIte, reduceCtorEq]; rfl) ?_
    refine rscan_ok C (by omega) (fun h => by omega) ?_
    intro _ v2 w2 ho2 hx2
    rw [hok]
    refine WS_run 1000 (by simp only [go_sem, Nat.reduceAdd, Nat.reduceLT, Nat.reduceEqDiff, reduceIte, reduceCtorEq]; rfl) ?_
    refine WS_ret ⟨_, by simp only [go_sem, Nat.reduceAdd, Nat.reduceLT, Nat.reduceEqDiff, reduceIte, reduceCtorEq, k6]; rfl, ?_⟩
    exact ⟨rfl, hx1.trans (hx2.mono hx1.next)⟩
  · intro _ hok v1 w1 ho1 hx1
    refine WS_run 1000 (by simp only [go_sem, Nat.reduceAdd, Nat.reduceLT, Nat.reduceEqDiff, reduceIte, reduceCtorEq]; rfl) ?_
    refine WS_call (by simp only [go_sem, Nat.reduceAdd, Nat.reduceLT, Nat.reduceEqDiff, reduceIte, reduceCtorEq]) (by simp only [go_sem, Nat.reduceAdd, Nat.reduceLT, Nat.reduceEqDiff, reduceIte, reduceCtorEq]; rfl) ?_
    refine rscan_ok C (by omega) (fun h => by omega) ?_
    intro _ v2 w2 ho2 hx2
    rw [hok]
    have ho1 := ho1.ext (Nat.le_refl _) hx2
    have hx := hx1.trans (hx2.mono hx1.next)
    clear hx1 hx2
    have hlen : (scan 0 s').1.length ≤ 4611686018427387904 := by have := scan_len _ 0 s' (Nat.le_refl _); omega
    generalize (scan 0 s').1 = l at ho1 ho2 hlen
    have el : ∀ t : List Nat, eqL t t = true := fun t => eqL_iff.2 rfl
    have hx0 : Ext aw.next aw w2 := hx
    -- the words, one by one
    have loop : ∀ (b1 b2 : Nat) (f : Fr), Own aw.next w2 (.slice b1 0 l.length (.upTo 3)) 3 l.length (wdsCells l) → Own w1.next w2 (.slice b2 0 l.length (.upTo 3)) 3 l.length (wdsCells l) → l.length ≤ 4611686018427387904 →
        f.get 4 = some (.slice b1 0 l.length (.upTo 3)) → f.get 6 = some (.slice b2 0 l.length (.upTo 3)) → f.get 8 = some (.int .i64 (Int.ofNat 0)) →
        WS tab [.code (.loop k6_1), .endB 0, .code (.seq (.region [⟨some 2, none, .mov (.const (.bool true))⟩]) .ret)] f w2 (fun fr' aw' => ∃ vs, resV fr' aw' k6.results = some vs ∧ resOne vs = .bool true ∧ Ext aw.next aw aw') := by
      intro b1 b2 f ho1 ho2 hlen f4 f6 f8
      refine WS_loop (fun n f w => ∃ i, f.get 4 = some (.slice b1 0 l.length (.upTo 3)) ∧ f.get 6 = some (.slice b2 0 l.length (.upTo 3)) ∧ f.get 8 = some (.int .i64 (Int.ofNat i)) ∧ i ≤ l.length ∧ n = l.length - i ∧ w = w2) ?_ l.length ⟨0, f4, f6, f8, by omega, rfl, rfl⟩
      rintro n f w ⟨i, f4, f6, f8, hi, rfl, rfl⟩ ih
      by_cases hlt : i < l.length
      · obtain ⟨x, hxi⟩ : ∃ x, l[i]? = some x := ⟨_, List.getElem?_eq_getElem hlt⟩
        have a0 := ho1.part (j := 0) (k := 1) wdCells_len hxi (by omega)
        have a1 := ho1.part (j := 1) (k := 1) wdCells_len hxi (by omega)
        have a2 := ho1.part (j := 2) (k := 1) wdCells_len hxi (by omega)
        have c0 := ho2.part (j := 0) (k := 1) wdCells_len hxi (by omega)
        have c1 := ho2.part (j := 1) (k := 1) wdCells_len hxi (by omega)
        have c2 := ho2.part (j := 2) (k := 1) wdCells_len hxi (by omega)
        simp only [wdCells, List.drop_zero, List.drop_succ_cons, List.take_succ_cons, List.take_zero] at a0 a1 a2 c0 c1 c2
        have hw : IntKind.wrap .i64 (Int.ofNat i + 1) = Int.ofNat (i + 1) := wrap_succ (by omega)
        refine WS_run 1000 (by simp only [go_sem, Nat.reduceAdd, Nat.reduceLT, Nat.reduceEqDiff, reduceIte, reduceCtorEq, k6_1, k6_0, f4, f6, f8, hlt]; rfl) ?_
        refine WS_drawnQ rfl (by simp only [go_sem, Nat.reduceAdd, Nat.reduceLT, Nat.reduceEqDiff, reduceIte, reduceCtorEq, f4, f6, f8, hlt, a0, a1, a2, c0, c1, c2, strS, el]; rfl) ?_
        refine WS_run 1000 (by simp only [go_sem, Nat.reduceAdd, Nat.reduceLT, Nat.reduceEqDiff, reduceIte, reduceCtorEq, f8, hw]; rfl) ?_
        exact ih _ _ _ (by omega) ⟨i + 1, (by simp only [go_sem, Nat.reduceAdd, Nat.reduceLT, Nat.reduceEqDiff, reduceIte, reduceCtorEq, f4] <;> rfl), (by simp only [go_sem, Nat.reduceAdd, Nat.reduceLT, Nat.reduceEqDiff, reduceIte, reduceCtorEq, f6] <;> rfl), (by simp only [go_sem, Nat.reduceAdd, Nat.reduceLT, Nat.reduceEqDiff, reduceIte, reduceCtorEq] <;> rfl), by omega, rfl, rfl⟩
      · refine WS_run 1000 (by simp only [go_sem, Nat.reduceAdd, Nat.reduceLT, Nat.reduceEqDiff, reduceIte, reduceCtorEq, k6_1, f4, f8, hlt]; rfl) ?_
        refine WS_ret ⟨_, by simp only [go_sem, Nat.reduceAdd, Nat.reduceLT, Nat.reduceEqDiff, reduceIte, reduceCtorEq, k6]; rfl, ?_⟩
        exact ⟨rfl, hx⟩
    rcases ho1.inv with ⟨rfl, h0, hc⟩ | ⟨b1, rfl, hn1⟩
    · rcases ho2.inv with ⟨rfl, _, _⟩ | ⟨b2, rfl, hn2⟩
      · refine WS_run 1000 (by simp only [go_sem, Nat.reduceAdd, Nat.reduceLT, Nat.reduceEqDiff, reduceIte, reduceCtorEq, k6]; rfl) ?_
        refine WS_loop1 ?_
        refine WS_run 1000 (by simp only [go_sem, Nat.reduceAdd, Nat.reduceLT, Nat.reduceEqDiff, reduceIte, reduceCtorEq, k6_1]; rfl) ?_
        refine WS_ret ⟨_, by simp only [go_sem, Nat.reduceAdd, Nat.reduceLT, Nat.reduceEqDiff, reduceIte, reduceCtorEq, k6]; rfl, ?_⟩
        exact ⟨rfl, hx⟩
      · omega
    · rcases ho2.inv with ⟨rfl, _, _⟩ | ⟨b2, rfl, hn2⟩
      · omega
      · refine WS_run 1000 (by simp only [go_sem, Nat.reduceAdd, Nat.reduceLT, Nat.reduceEqDiff, reduceIte, reduceCtorEq, k6]; rfl) ?_
        exact loop b1 b2 _ ho1 ho2 hlen (by simp only [go_sem, Nat.reduceAdd, Nat.reduceLT, Nat.reduceEqDiff, reduceIte, reduceCtorEq] <;> rfl) (by simp only [go_sem, Nat.reduceAdd, Nat.reduceLT, Nat.reduceEqDiff, reduceIte, reduceCtorEq] <;> rfl) (by simp only [go_sem, Nat.reduceAdd, Nat.reduceLT, Nat.reduceEqDiff, reduceIte, reduceCtorEq] <;> rfl)
end Go.Proofs.Ytjidefnbancmfaa
