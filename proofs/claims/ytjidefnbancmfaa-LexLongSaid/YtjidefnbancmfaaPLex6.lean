/- A part of the proof. -/
import Derived.Test.YtjidefnbancmfaaPLex5
import Derived.Test.YtjidefnbancmfaaXLex2
set_option linter.unusedVariables false
set_option linter.unusedSimpArgs false
namespace Go.Proofs.Ytjidefnbancmfaa
open Go.AE Delphi
variable {tab : Tab}
theorem drop_cons_of {α : Type} {l : List α} {i : Nat} {x : α} (h : l[i]? = some x) : l.drop i = x :: l.drop (i + 1) := by
  have hi : i < l.length := (List.getElem?_eq_some_iff.1 h).1
  rw [List.drop_eq_getElem_cons hi]; rw [List.getElem?_eq_getElem hi] at h; rw [Option.some.inj h]
def ApI (b1 b2 : Nat) (l : List Wd) (w2 : AW) (n : Nat) (f : Fr) (w : AW) : Prop := ∃ i a, f.get 8 = some (.slice b2 0 l.length (.upTo 3)) ∧ f.get 4 = some (.slice b1 0 l.length (.upTo 3)) ∧ f.get 10 = some (.int .i64 (Int.ofNat a)) ∧ f.get 11 = some (.int .i64 (Int.ofNat i)) ∧ i ≤ l.length ∧
  (replaced 0 l).drop i = replaced a (l.drop i) ∧ a + (textLen (l.drop i) + (l.drop i).length) = textLen l + l.length ∧ n = l.length - i ∧ w = w2
def k8r : ACode := (.seq (.region [⟨some 38, none, .mov (.tmp 6)⟩,
  ⟨some 39, none, .call (.const (.func (.func 25) [] [])) [(.tmp 38)]⟩,
  ⟨some 37, none, .mov (.tmp 39)⟩,
  ⟨some 40, none, .extract 0 (.tmp 37)⟩,
  ⟨some 41, none, .extract 1 (.tmp 37)⟩,
  ⟨some 8, none, .mov (.tmp 40)⟩,
  ⟨some 9, none, .mov (.tmp 41)⟩])
 (.seq (.seq (.region [⟨some 42, none, .mov (.tmp 9)⟩,
  ⟨some 43, none, .bin .neq (.tmp 42) (.const (.int .i64 0))⟩,
  ⟨some 44, none, .mov (.tmp 43)⟩,
  ⟨some 45, (some (44, false)), .mov (.tmp 8)⟩,
  ⟨some 46, (some (44, false)), .lenSl (.tmp 45)⟩,
  ⟨some 47, (some (44, false)), .mov (.tmp 4)⟩,
  ⟨some 48, (some (44, false)), .lenSl (.tmp 47)⟩,
  ⟨some 49, (some (44, false)), .bin .neq (.tmp 46) (.tmp 48)⟩,
  ⟨some 50, none, .pick (.tmp 44) (.const (.bool true)) (.tmp 49)⟩])
 (.cond (.tmp 50) (.seq (.region [⟨some 2, none, .mov (.const (.bool false))⟩])
 .ret) .skip))
 (.seq (.region [⟨some 10, none, .mov (.const (.int .i64 0))⟩])
 (.seq (.seq (.region [⟨some 11, none, .mov (.const (.int .i64 0))⟩])
 (.block 2 (.loop k8_3)))
 (.seq (.region [⟨some 2, none, .mov (.const (.bool true))⟩])
 .ret)))))
set_option maxRecDepth 10000 in
theorem lexApart_law (C : Codes tab) (E : ExtIdx tab) (B : Begun tab 23) {s : List Nat} {aw : AW} (hb : ∀ x ∈ s, x < 256) : WF tab 8 [.str s] aw (fun v aw' => v = .bool true ∧ Ext aw.next aw aw') := by
  refine WF_of C.c8 rfl ?_
  refine WS_run 1000 (by simp only [go_sem, Nat.reduceAdd, Nat.reduceLT, Nat.reduceEqDiff, reduceIte, reduceCtorEq, k8]; rfl) ?_
  refine WS_call (by simp only [go_sem, Nat.reduceAdd, Nat.reduceLT, Nat.reduceEqDiff, reduceIte, reduceCtorEq]) (by simp only [go_sem, Nat.reduceAdd, Nat.reduceLT, Nat.reduceEqDiff, reduceIte, reduceCtorEq]; rfl) ?_
  refine ⟨_, _, B aw, ?_⟩
  refine WS_run 1000 (by simp only [go_sem, Nat.reduceAdd, Nat.reduceLT, Nat.reduceEqDiff, reduceIte, reduceCtorEq]; rfl) ?_
  refine WS_call (by simp only [go_sem, Nat.reduceAdd, Nat.reduceLT, Nat.reduceEqDiff, reduceIte, reduceCtorEq]) (by simp only [go_sem, Nat.reduceAdd, Nat.reduceLT, Nat.reduceEqDiff, reduceIte, reduceCtorEq]; rfl) ?_
  refine cut_ok (n := 300) C ?_
  generalize hs' : s.take 300 = s'
  have hl' : s'.length ≤ 300 := by rw [← hs']; simp; omega
  have hb' : ∀ x ∈ s', x < 256 := fun x hx => hb x (List.mem_of_mem_take (hs' ▸ hx))
  refine WS_run 1000 (by simp only [go_sem, Nat.reduceAdd, Nat.reduceLT, Nat.reduceEqDiff, reduceIte, reduceCtorEq]; rfl) ?_
  refine WS_call (by simp only [go_sem, Nat.reduceAdd, Nat.reduceLT, Nat.reduceEqDiff, reduceIte, reduceCtorEq]) (by simp only [go_sem, Nat.reduceAdd, Nat.reduceLT, Nat.reduceEqDiff, reduceIte, reduceCtorEq]; rfl) ?_
  refine rscan_ok C (by omega) (fun h => by omega) ?_
  intro _ v1 w1 ho1 hx1
  cases hok : (scan 0 s').2 with
  | false =>
    refine WS_run 1000 (by simp only [go_sem, Nat.reduceAdd, Nat.reduceLT, Nat.reduceEqDiff, reduceIte, reduceCtorEq]; rfl) ?_
    refine WS_ret ⟨_, by simp only [go_sem, Nat.reduceAdd, Nat.reduceLT, Nat.reduceEqDiff, reduceIte, reduceCtorEq, k8]; rfl, ?_⟩
    exact ⟨rfl, hx1⟩
  | true =>
    have hlen : (scan 0 s').1.length ≤ 300 := by have := scan_len _ 0 s' (Nat.le_refl _); omega
    have htl : textLen (scan 0 s').1 ≤ 300 := by have := scan_textLen _ 0 s' (Nat.le_refl _); omega
    have hwd := scan_words _ 0 s' (Nat.le_refl _)
    have hby : ∀ w ∈ (scan 0 s').1, ∀ x ∈ w.text, x < 256 := fun w hw x hx => hb' x (scan_bytes _ 0 s' (Nat.le_refl _) w hw x hx)
    generalize (scan 0 s').1 = l at ho1 hlen htl hwd hby
    have hsp := scan_spaced l 0 hwd
    have hspl := spaced_len l
    -- behind the first loop
    have rest : ∀ fr : Fr, fr.get 4 = some v1 → fr.get 6 = some (.str (spaced l)) → WS tab [.code k8r] fr w1 (fun fr' aw' => ∃ vs, resV fr' aw' k8.results = some vs ∧ resOne vs = .bool true ∧ Ext aw.next aw aw') := by
      intro fr f4 f6
      refine WS_run 1000 (by simp only [go_sem, Nat.reduceAdd, Nat.reduceLT, Nat.reduceEqDiff, reduceIte, reduceCtorEq, k8r, f6]; rfl) ?_
      refine WS_call (by simp only [go_sem, Nat.reduceAdd, Nat.reduceLT, Nat.reduceEqDiff, reduceIte, reduceCtorEq]) (by simp only [go_sem, Nat.reduceAdd, Nat.reduceLT, Nat.reduceEqDiff, reduceIte, reduceCtorEq]; rfl) ?_
      refine lexScan_ok C E (spaced_bytes l hby) (by omega) (fun h => by omega) (fun _ h => by rw [hsp] at h; cases h) ?_
      intro _ _ v2 w2 ho2 hx2
      rw [hsp] at ho2
      simp only [replaced_len] at ho2
      have ho1 := ho1.ext (Nat.le_refl _) hx2
      have hx := hx1.trans (hx2.mono hx1.le')
      rcases ho1.inv with ⟨rfl, h0, hc⟩ | ⟨b1, rfl, hn1⟩
      · rcases ho2.inv with ⟨rfl, _, _⟩ | ⟨b2, rfl, hn2⟩
        · refine WS_run 1000 (by simp only [go_sem, Nat.reduceAdd, Nat.reduceLT, Nat.reduceEqDiff, reduceIte, reduceCtorEq, f4]; rfl) ?_
          refine WS_loop1 ?_
          refine WS_run 1000 (by simp only [go_sem, Nat.reduceAdd, Nat.reduceLT, Nat.reduceEqDiff, reduceIte, reduceCtorEq, k8_3]; rfl) ?_
          refine WS_ret ⟨_, by simp only [go_sem, Nat.reduceAdd, Nat.reduceLT, Nat.reduceEqDiff, reduceIte, reduceCtorEq, k8]; rfl, ?_⟩
          exact ⟨rfl, hx⟩
        · omega
      · rcases ho2.inv with ⟨rfl, _, _⟩ | ⟨b2, rfl, hn2⟩
        · omega
        · have el : ∀ t : List Nat, eqL t t = true := fun t => eqL_iff.2 rfl
          refine WS_run 1000 (by simp only [go_sem, Nat.reduceAdd, Nat.reduceLT, Nat.reduceEqDiff, reduceIte, reduceCtorEq, f4]; rfl) ?_
          refine WS_loop (ApI b1 b2 l w2) ?_ l.length ⟨0, 0, (by simp only [go_sem, Nat.reduceAdd, Nat.reduceLT, Nat.reduceEqDiff, reduceIte, reduceCtorEq] <;> rfl), (by simp only [go_sem, Nat.reduceAdd, Nat.reduceLT, Nat.reduceEqDiff, reduceIte, reduceCtorEq, f4] <;> rfl), (by simp only [go_sem, Nat.reduceAdd, Nat.reduceLT, Nat.reduceEqDiff, reduceIte, reduceCtorEq] <;> rfl), (by simp only [go_sem, Nat.reduceAdd, Nat.reduceLT, Nat.reduceEqDiff, reduceIte, reduceCtorEq] <;> rfl), by omega, by simp, by simp, rfl, rfl⟩
          rintro n f w ⟨i, a, f8, f4, f10, f11, hi, hrep, hsum, rfl, rfl⟩ ih
          by_cases hlt : i < l.length
          · obtain ⟨x, hxi⟩ : ∃ x, l[i]? = some x := ⟨_, List.getElem?_eq_getElem hlt⟩
            have hd := drop_cons_of hxi
            rw [hd] at hrep hsum
            simp only [replaced, textLen, List.length_cons] at hrep hsum
            have hxr : (replaced 0 l)[i]? = some ⟨x.kind, x.text, a⟩ := by
              have := congrArg (fun q => q[0]?) hrep
              simpa using this
            have hrep2 : (replaced 0 l).drop (i + 1) = replaced (a + x.text.length + 1) (l.drop (i + 1)) := by
              have := congrArg (fun q => q.drop 1) hrep
              simpa [List.drop_drop, Nat.add_comm] using this
            have a0 := ho1.part (j := 0) (k := 1) wdCells_len hxi (by omega)
            have a1 := ho1.part (j := 1) (k := 1) wdCells_len hxi (by omega)
            have a2 := ho1.part (j := 2) (k := 1) wdCells_len hxi (by omega)
            have c0 := ho2.part (j := 0) (k := 1) wdCells_len hxr (by omega)
            have c1 := ho2.part (j := 1) (k := 1) wdCells_len hxr (by omega)
            have c2 := ho2.part (j := 2) (k := 1) wdCells_len hxr (by omega)
            simp only [wdCells, List.drop_zero, List.drop_succ_cons, List.take_succ_cons, List.take_zero] at a0 a1 a2 c0 c1 c2
            have hw1 : IntKind.wrap .i64 (Int.ofNat x.text.length + 1) = Int.ofNat (x.text.length + 1) := wrap_succ (by omega)
            have hw2 : IntKind.wrap .i64 (Int.ofNat a + Int.ofNat (x.text.length + 1)) = Int.ofNat (a + (x.text.length + 1)) := wrap_add (by omega)
            have hw : IntKind.wrap .i64 (Int.ofNat i + 1) = Int.ofNat (i + 1) := wrap_succ (by omega)
            refine WS_run 1000 (by simp only [go_sem, Nat.reduceAdd, Nat.reduceLT, Nat.reduceEqDiff, reduceIte, reduceCtorEq, k8_3, k8_2, f8, f4, f10, f11, hlt]; rfl) ?_
            refine WS_drawnQ rfl (by simp only [go_sem, Nat.reduceAdd, Nat.reduceLT, Nat.reduceEqDiff, reduceIte, reduceCtorEq, f8, f4, f10, f11, hlt, a0, a1, a2, c0, c1, c2, strS, el]; rfl) ?_
            refine WS_run 1000 (by simp only [go_sem, Nat.reduceAdd, Nat.reduceLT, Nat.reduceEqDiff, reduceIte, reduceCtorEq, f8, f4, f10, f11, hlt, a0, a1, a2, c0, c1, c2, hw, hw1, hw2]; rfl) ?_
            exact ih _ _ _ (by omega) ⟨i + 1, a + (x.text.length + 1), (by simp only [go_sem, Nat.reduceAdd, Nat.reduceLT, Nat.reduceEqDiff, reduceIte, reduceCtorEq, f8] <;> rfl), (by simp only [go_sem, Nat.reduceAdd, Nat.reduceLT, Nat.reduceEqDiff, reduceIte, reduceCtorEq, f4] <;> rfl), (by simp only [go_sem, Nat.reduceAdd, Nat.reduceLT, Nat.reduceEqDiff, reduceIte, reduceCtorEq] <;> rfl), (by simp only [go_sem, Nat.reduceAdd, Nat.reduceLT, Nat.reduceEqDiff, reduceIte, reduceCtorEq] <;> rfl), by omega, by rw [hrep2, Nat.add_assoc], by omega, rfl, rfl⟩
          · refine WS_run 1000 (by simp only [go_sem, Nat.reduceAdd, Nat.reduceLT, Nat.reduceEqDiff, reduceIte, reduceCtorEq, k8_3, f8, f11, hlt]; rfl) ?_
            refine WS_ret ⟨_, by simp only [go_sem, Nat.reduceAdd, Nat.reduceLT, Nat.reduceEqDiff, reduceIte, reduceCtorEq, k8]; rfl, ?_⟩
            exact ⟨rfl, hx⟩
    rcases ho1.inv with ⟨rfl, h0, hc⟩ | ⟨b1, rfl, hn1⟩
    · refine WS_run 1000 (by simp only [go_sem, Nat.reduceAdd, Nat.reduceLT, Nat.reduceEqDiff, reduceIte, reduceCtorEq]; rfl) ?_
      refine WS_loop1 ?_
      have hl0 : l = [] := List.eq_nil_of_length_eq_zero h0
      refine WS_runB 10 (by simp only [go_sem, Nat.reduceAdd, Nat.reduceLT, Nat.reduceEqDiff, reduceIte, reduceCtorEq, k8_1]; rfl) ?_
      exact rest _ (by simp only [go_sem, Nat.reduceAdd, Nat.reduceLT, Nat.reduceEqDiff, reduceIte, reduceCtorEq] <;> rfl) (by simp only [go_sem, Nat.reduceAdd, Nat.reduceLT, Nat.reduceEqDiff, reduceIte, reduceCtorEq, hl0, spaced] <;> rfl)
    · refine WS_run 1000 (by simp only [go_sem, Nat.reduceAdd, Nat.reduceLT, Nat.reduceEqDiff, reduceIte, reduceCtorEq]; rfl) ?_
      refine WS_loop (fun n f w => ∃ i, f.get 4 = some (.slice b1 0 l.length (.upTo 3)) ∧ f.get 6 = some (.str (spaced (l.take i))) ∧ f.get 7 = some (.int .i64 (Int.ofNat i)) ∧ i ≤ l.length ∧ n = l.length - i ∧ w = w1) ?_ l.length ⟨0, (by simp only [go_sem, Nat.reduceAdd, Nat.reduceLT, Nat.reduceEqDiff, reduceIte, reduceCtorEq] <;> rfl), (by simp only [go_sem, Nat.reduceAdd, Nat.reduceLT, Nat.reduceEqDiff, reduceIte, reduceCtorEq] <;> rfl), (by simp only [go_sem, Nat.reduceAdd, Nat.reduceLT, Nat.reduceEqDiff, reduceIte, reduceCtorEq] <;> rfl), by omega, rfl, rfl⟩
      rintro n f w ⟨i, f4, f6, f7, hi, rfl, rfl⟩ ih
      by_cases hlt : i < l.length
      · obtain ⟨x, hxi⟩ : ∃ x, l[i]? = some x := ⟨_, List.getElem?_eq_getElem hlt⟩
        have a1 := ho1.part (j := 1) (k := 1) wdCells_len hxi (by omega)
        simp only [wdCells, List.drop_zero, List.drop_succ_cons, List.take_succ_cons, List.take_zero] at a1
        have hw : IntKind.wrap .i64 (Int.ofNat i + 1) = Int.ofNat (i + 1) := wrap_succ (by omega)
        have hts : ∀ k, (l.take k).length ≤ l.length := fun k => by simp; omega
        have htk : ∀ (m : List Wd) k, textLen (m.take k) ≤ textLen m := by
          intro m
          induction m with
          | nil => intro k; simp [textLen]
          | cons y m ih => intro k; cases k with
            | zero => simp [textLen]
            | succ k => simp only [List.take_succ_cons, textLen]; have := ih k; omega
        have hsl : (spaced (l.take i)).length ≤ 600 := by rw [spaced_len]; have := hts i; have := htk l i; omega
        have hsn : spaced (l.take (i + 1)) = spaced (l.take i) ++ (x.text ++ [32]) := by
          rw [List.take_add_one, hxi]; exact spaced_snoc _ _
        have hsl2 : (spaced (l.take (i + 1))).length ≤ 600 := by rw [spaced_len]; have := hts (i + 1); have := htk l (i + 1); omega
        rw [hsn] at hsl2
        simp only [List.length_append] at hsl2
        have e1 : x.text.length + [32].length ≤ 4611686018427387904 := by omega
        have e2 : (spaced (l.take i)).length + (x.text ++ [32]).length ≤ 4611686018427387904 := by simp only [List.length_append]; omega
        refine WS_run 1000 (by simp only [go_sem, Nat.reduceAdd, Nat.reduceLT, Nat.reduceEqDiff, reduceIte, reduceCtorEq, k8_1, k8_0, f4, f6, f7, hlt, a1, strS, e1, e2, hw]; rfl) ?_
        exact ih _ _ _ (by omega) ⟨i + 1, (by simp only [go_sem, Nat.reduceAdd, Nat.reduceLT, Nat.reduceEqDiff, reduceIte, reduceCtorEq, f4] <;> rfl), (by simp only [go_sem, Nat.reduceAdd, Nat.reduceLT, Nat.reduceEqDiff, reduceIte, reduceCtorEq, hsn] <;> rfl), (by simp only [go_sem, Nat.reduceAdd, Nat.reduceLT, Nat.reduceEqDiff, reduceIte, reduceCtorEq] <;> rfl), by omega, rfl, rfl⟩
      · have : i = l.length := by omega
        subst this
        rw [List.take_length] at f6
        refine WS_runB 10 (by simp only [go_sem, Nat.reduceAdd, Nat.reduceLT, Nat.reduceEqDiff, reduceIte, reduceCtorEq, k8_1, f4, f7, hlt]; rfl) ?_
        exact rest _ (by simp only [go_sem, Nat.reduceAdd, Nat.reduceLT, Nat.reduceEqDiff, reduceIte, reduceCtorEq, f4] <;> rfl) (by simp only [go_sem, Nat.reduceAdd, Nat.reduceLT, Nat.reduceEqDiff, reduceIte, reduceCtorEq, f6] <;> rfl)
end Go.Proofs.Ytjidefnbancmfaa
