/- A part of the proof. -/
import Derived.Test.YtjidefnbancmfaaPLex3
set_option linter.unusedVariables false
set_option linter.unusedSimpArgs false
namespace Go.Proofs.Ytjidefnbancmfaa
open Go.AE Delphi
variable {tab : Tab}
def ScanI (s : List Nat) (l : List Wd) (ok : Bool) (aw : AW) (n : Nat) (f : Fr) (w : AW) : Prop := ∃ i v done, f.get 0 = some (.str s) ∧ f.get 5 = some (.int .i64 (Int.ofNat i)) ∧ f.get 4 = some v ∧ Own aw.next w v 3 done.length (wdsCells done) ∧ Ext aw.next aw w ∧ i ≤ s.length ∧
    (l, ok) = (done ++ (scan i (s.drop i)).1, (scan i (s.drop i)).2) ∧ done.length ≤ i ∧ n = s.length - i
set_option maxRecDepth 10000 in
set_option maxHeartbeats 1000000 in
theorem rscan_ok (C : Codes tab) {s : List Nat} {aw : AW} {K : V → AW → Prop} (hs : s.length ≤ 1099511627776)
    (h1 : 4000 < s.length → K (.tuple [.nilslice, .int .i64 8]) aw)
    (h2 : s.length ≤ 4000 → ∀ v aw', Own aw.next aw' v 3 (scan 0 s).1.length (wdsCells (scan 0 s).1) → Ext aw.next aw aw' → K (.tuple [v, .int .i64 (if (scan 0 s).2 then 0 else 4)]) aw') : WF tab 26 [.str s] aw K := by
  refine WF_of C.c26 rfl ?_
  obtain ⟨l, ok, hres⟩ : ∃ l ok, scan 0 s = (l, ok) := ⟨_, _, rfl⟩
  rw [hres] at h2
  simp only at h2
  by_cases hl : 4000 < s.length
  · refine WS_run 1000 (by simp only [go_sem, Nat.reduceAdd, Nat.reduceLT, Nat.reduceEqDiff, reduceIte, reduceCtorEq, k26, hl]; rfl) ?_
    refine WS_ret ⟨_, by simp only [go_sem, Nat.reduceAdd, Nat.reduceLT, Nat.reduceEqDiff, reduceIte, reduceCtorEq, k26]; rfl, ?_⟩
    exact h1 hl
  have h2 := h2 (by omega)
  refine WS_run 1000 (by simp only [go_sem, Nat.reduceAdd, Nat.reduceLT, Nat.reduceEqDiff, reduceIte, reduceCtorEq, k26, hl]; rfl) ?_
  refine WS_loop (ScanI s l ok aw) ?_ s.length ⟨0, .nilslice, [], (by simp only [go_sem, Nat.reduceAdd, Nat.reduceLT, Nat.reduceEqDiff, reduceIte, reduceCtorEq] <;> rfl), (by simp only [go_sem, Nat.reduceAdd, Nat.reduceLT, Nat.reduceEqDiff, reduceIte, reduceCtorEq] <;> rfl), (by simp only [go_sem, Nat.reduceAdd, Nat.reduceLT, Nat.reduceEqDiff, reduceIte, reduceCtorEq] <;> rfl), .nil, Ext.refl aw, by omega, by rw [← hres]; simp, by simp, rfl⟩
  rintro n f w ⟨i, v, done, f0, f5, f4, hown, hext, hi, hsc, hdl, rfl⟩ ih
  by_cases hlt : i < s.length
  · obtain ⟨c, hc⟩ : ∃ c, s[i]? = some c := ⟨_, List.getElem?_eq_getElem hlt⟩
    have hd0 : s.drop i = c :: s.drop (i + 1) := by
      rw [List.drop_eq_getElem_cons hlt]; rw [List.getElem?_eq_getElem hlt] at hc; rw [Option.some.inj hc]
    have hw : IntKind.wrap .i64 (Int.ofNat i + 1) = Int.ofNat (i + 1) := wrap_succ (by omega)
    have skip : ∀ (j : Nat) f' , i < j → j ≤ s.length → blk false (s.drop i) = (j - i) + blk false (s.drop j) → f'.get 0 = some (.str s) → f'.get 5 = some (.int .i64 (Int.ofNat j)) → f'.get 4 = some v → ScanI s l ok aw (s.length - j) f' w := by
      intro j f' hij hj hb g0 g5 g4
      refine ⟨j, v, done, g0, g5, g4, hown, hext, hj, ?_, by omega, rfl⟩
      have e : s.drop j = (s.drop i).drop (j - i) := by rw [List.drop_drop]; congr 1; omega
      rw [hsc, scan_skip i (s.drop i) (j - i) (by rw [← e]; exact hb), ← e, show i + (j - i) = j by omega]
    have skip1 : isBlank c = true → ∀ f', f'.get 0 = some (.str s) → f'.get 5 = some (.int .i64 (Int.ofNat (i + 1))) → f'.get 4 = some v → ScanI s l ok aw (s.length - (i + 1)) f' w := fun hb f' g0 g5 g4 =>
      skip (i + 1) f' (by omega) (by omega) (by rw [hd0]; simp only [blk, hb, if_true]; omega) g0 g5 g4
    have rest : True := trivial
    by_cases b32 : c = 32
    · refine WS_run 1000 (by simp only [go_sem, Nat.reduceAdd, Nat.reduceLT, Nat.reduceEqDiff, reduceIte, reduceCtorEq, k26_3, k26_2, f0, f5, hlt, hc, hw, b32]; rfl) ?_
      exact ih _ _ _ (by omega) (skip1 (by simp [isBlank, b32]) _ (by simp only [go_sem, Nat.reduceAdd, Nat.reduceLT, Nat.reduceEqDiff, reduceIte, reduceCtorEq, f0] <;> rfl) (by simp only [go_sem, Nat.reduceAdd, Nat.reduceLT, Nat.reduceEqDiff, reduceIte, reduceCtorEq] <;> rfl) (by simp only [go_sem, Nat.reduceAdd, Nat.reduceLT, Nat.reduceEqDiff, reduceIte, reduceCtorEq, f4] <;> rfl))
    by_cases b9 : c = 9
    · refine WS_run 1000 (by simp only [go_sem, Nat.reduceAdd, Nat.reduceLT, Nat.reduceEqDiff, reduceIte, reduceCtorEq, k26_3, k26_2, f0, f5, hlt, hc, hw, b32, b9]; rfl) ?_
      exact ih _ _ _ (by omega) (skip1 (by simp [isBlank, b32, b9]) _ (by simp only [go_sem, Nat.reduceAdd, Nat.reduceLT, Nat.reduceEqDiff, reduceIte, reduceCtorEq, f0] <;> rfl) (by simp only [go_sem, Nat.reduceAdd, Nat.reduceLT, Nat.reduceEqDiff, reduceIte, reduceCtorEq] <;> rfl) (by simp only [go_sem, Nat.reduceAdd, Nat.reduceLT, Nat.reduceEqDiff, reduceIte, reduceCtorEq, f4] <;> rfl))
    by_cases b10 : c = 10
    · refine WS_run 1000 (by simp only [go_sem, Nat.reduceAdd, Nat.reduceLT, Nat.reduceEqDiff, reduceIte, reduceCtorEq, k26_3, k26_2, f0, f5, hlt, hc, hw, b32, b9, b10]; rfl) ?_
      exact ih _ _ _ (by omega) (skip1 (by simp [isBlank, b32, b9, b10]) _ (by simp only [go_sem, Nat.reduceAdd, Nat.reduceLT, Nat.reduceEqDiff, reduceIte, reduceCtorEq, f0] <;> rfl) (by simp only [go_sem, Nat.reduceAdd, Nat.reduceLT, Nat.reduceEqDiff, reduceIte, reduceCtorEq] <;> rfl) (by simp only [go_sem, Nat.reduceAdd, Nat.reduceLT, Nat.reduceEqDiff, reduceIte, reduceCtorEq, f4] <;> rfl))
    by_cases b13 : c = 13
    · refine WS_run 1000 (by simp only [go_sem, Nat.reduceAdd, Nat.reduceLT, Nat.reduceEqDiff, reduceIte, reduceCtorEq, k26_3, k26_2, f0, f5, hlt, hc, hw, b32, b9, b10, b13]; rfl) ?_
      exact ih _ _ _ (by omega) (skip1 (by simp [isBlank, b32, b9, b10, b13]) _ (by simp only [go_sem, Nat.reduceAdd, Nat.reduceLT, Nat.reduceEqDiff, reduceIte, reduceCtorEq, f0] <;> rfl) (by simp only [go_sem, Nat.reduceAdd, Nat.reduceLT, Nat.reduceEqDiff, reduceIte, reduceCtorEq] <;> rfl) (by simp only [go_sem, Nat.reduceAdd, Nat.reduceLT, Nat.reduceEqDiff, reduceIte, reduceCtorEq, f4] <;> rfl))
    have hnb : isBlank c = false := by simp [isBlank, b32, b9, b10, b13]
    by_cases h37 : c = 37
    · refine WS_run 1000 (by simp only [go_sem, Nat.reduceAdd, Nat.reduceLT, Nat.reduceEqDiff, reduceIte, reduceCtorEq, k26_3, k26_2, f0, f5, hlt, hc, b32, b9, b10, b13, h37]; rfl) ?_
      -- the note
      refine WS_loop (fun n f' w' => ∃ j, f'.get 0 = some (.str s) ∧ f'.get 5 = some (.int .i64 (Int.ofNat j)) ∧ f'.get 4 = some v ∧ i ≤ j ∧ j ≤ s.length ∧ blk false (s.drop i) = (j - i) + blk true (s.drop j) ∧ n = s.length - j ∧ w' = w) ?_ (s.length - i) ⟨i, (by simp only [go_sem, Nat.reduceAdd, Nat.reduceLT, Nat.reduceEqDiff, reduceIte, reduceCtorEq, f0] <;> rfl), (by simp only [go_sem, Nat.reduceAdd, Nat.reduceLT, Nat.reduceEqDiff, reduceIte, reduceCtorEq, f5] <;> rfl), (by simp only [go_sem, Nat.reduceAdd, Nat.reduceLT, Nat.reduceEqDiff, reduceIte, reduceCtorEq, f4] <;> rfl), by omega, hi, ?_, rfl, rfl⟩
      · rintro n f' w' ⟨j, g0, g5, g4, hij, hj, hbj, rfl, rfl⟩ ih2
        by_cases hjl : j < s.length
        · obtain ⟨d, hdc⟩ : ∃ d, s[j]? = some d := ⟨_, List.getElem?_eq_getElem hjl⟩
          have hdj : s.drop j = d :: s.drop (j + 1) := by
            rw [List.drop_eq_getElem_cons hjl]; rw [List.getElem?_eq_getElem hjl] at hdc; rw [Option.some.inj hdc]
          have hwj : IntKind.wrap .i64 (Int.ofNat j + 1) = Int.ofNat (j + 1) := wrap_succ (by omega)
          by_cases h10 : d = 10
          · refine WS_run 1000 (by simp only [go_sem, Nat.reduceAdd, Nat.reduceLT, Nat.reduceEqDiff, reduceIte, reduceCtorEq, k26_0, g0, g5, hjl, hdc, h10]; rfl) ?_
            have hne : i ≠ j := by
              intro he; subst he; rw [hc] at hdc; cases hdc; omega
            refine ih _ _ _ (by omega) (skip j _ (by omega) hj ?_ (by simp only [go_sem, Nat.reduceAdd, Nat.reduceLT, Nat.reduceEqDiff, reduceIte, reduceCtorEq, g0] <;> rfl) (by simp only [go_sem, Nat.reduceAdd, Nat.reduceLT, Nat.reduceEqDiff, reduceIte, reduceCtorEq, g5] <;> rfl) (by simp only [go_sem, Nat.reduceAdd, Nat.reduceLT, Nat.reduceEqDiff, reduceIte, reduceCtorEq, g4] <;> rfl))
            rw [hbj, hdj, h10]; simp [blk, isBlank]
          · refine WS_run 1000 (by simp only [go_sem, Nat.reduceAdd, Nat.reduceLT, Nat.reduceEqDiff, reduceIte, reduceCtorEq, k26_0, g0, g5, hjl, hdc, h10, hwj]; rfl) ?_
            refine ih2 (s.length - (j + 1)) _ _ (by omega) ⟨j + 1, (by simp only [go_sem, Nat.reduceAdd, Nat.reduceLT, Nat.reduceEqDiff, reduceIte, reduceCtorEq, g0] <;> rfl), (by simp only [go_sem, Nat.reduceAdd, Nat.reduceLT, Nat.reduceEqDiff, reduceIte, reduceCtorEq] <;> rfl), (by simp only [go_sem, Nat.reduceAdd, Nat.reduceLT, Nat.reduceEqDiff, reduceIte, reduceCtorEq, g4] <;> rfl), by omega, by omega, ?_, rfl, rfl⟩
            rw [hbj, hdj]; simp only [blk, if_neg h10]; omega
        · have : j = s.length := by omega
          subst this
          refine WS_run 1000 (by simp only [go_sem, Nat.reduceAdd, Nat.reduceLT, Nat.reduceEqDiff, reduceIte, reduceCtorEq, k26_0, g0, g5, hjl]; rfl) ?_
          refine ih _ _ _ (by omega) (skip s.length _ hlt hj ?_ (by simp only [go_sem, Nat.reduceAdd, Nat.reduceLT, Nat.reduceEqDiff, reduceIte, reduceCtorEq, g0] <;> rfl) (by simp only [go_sem, Nat.reduceAdd, Nat.reduceLT, Nat.reduceEqDiff, reduceIte, reduceCtorEq, g5] <;> rfl) (by simp only [go_sem, Nat.reduceAdd, Nat.reduceLT, Nat.reduceEqDiff, reduceIte, reduceCtorEq, g4] <;> rfl))
          rw [hbj, List.drop_length]; simp [blk]
      · rw [hd0, h37]; simp [blk, isBlank]
    · -- a word
      obtain ⟨t, hd⟩ : ∃ t, s.drop i = c :: t := ⟨_, hd0⟩
      have hbl : blk false (s.drop i) = 0 := by rw [hd]; simp [blk, hnb, h37]
      have hle := lexWord_le (c :: t)
      have hlen : (c :: t).length = s.length - i := by rw [← hd]; simp
      rw [scan_eq, hbl, List.drop_zero, hd] at hsc
      simp only [Nat.add_zero] at hsc
      refine WS_run 1000 (by simp only [go_sem, Nat.reduceAdd, Nat.reduceLT, Nat.reduceEqDiff, reduceIte, reduceCtorEq, k26_3, k26_2, k26_1, f0, f5, hlt, hi, hc, b32, b9, b10, b13, h37]; rfl) ?_
      refine WS_call (by simp only [go_sem, Nat.reduceAdd, Nat.reduceLT, Nat.reduceEqDiff, reduceIte, reduceCtorEq]) (by simp only [go_sem, Nat.reduceAdd, Nat.reduceLT, Nat.reduceEqDiff, reduceIte, reduceCtorEq]; rfl) ?_
      rw [hd]
      refine rword_ok (c := c) (t := t) C (by omega) ?_
      intro kind w1 hkd hx1
      generalize hlw : lexWord (c :: t) = lw at hle hsc hkd
      obtain ⟨k, m⟩ := lw
      simp only at hle hsc hkd
      by_cases hm : m = 0
      · rw [if_pos (.inl hm)] at hsc
        have e1 : l = done := by simpa using (Prod.mk.inj hsc).1
        have e2 : ok = false := (Prod.mk.inj hsc).2
        have fin := h2 v w1 (by rw [e1]; exact hown.ext (Nat.le_refl _) hx1) (hext.trans (hx1.mono hext.le'))
        rw [e2] at fin
        refine WS_run 1000 (by simp only [go_sem, Nat.reduceAdd, Nat.reduceLT, Nat.reduceEqDiff, reduceIte, reduceCtorEq, f4, hm]; rfl) ?_
        refine WS_ret ⟨_, by simp only [go_sem, Nat.reduceAdd, Nat.reduceLT, Nat.reduceEqDiff, reduceIte, reduceCtorEq, k26]; rfl, ?_⟩
        exact fin
      obtain rfl := hkd hm
      have hk4 : kind ≤ 4 := by
        have : (lexWord (c :: t)).1 ≤ 4 := by
          simp only [lexWord]
          (repeat' split) <;> simp
        rw [hlw] at this; exact this
      by_cases hbad : kind ≠ 4 ∧ 16 < m
      · rw [if_pos (.inr hbad)] at hsc
        have e1 : l = done := by simpa using (Prod.mk.inj hsc).1
        have e2 : ok = false := (Prod.mk.inj hsc).2
        have fin := h2 v w1 (by rw [e1]; exact hown.ext (Nat.le_refl _) hx1) (hext.trans (hx1.mono hext.le'))
        rw [e2] at fin
        obtain ⟨hk4', hm16⟩ := hbad
        have hk4'' : kind < 4 := by omega
        refine WS_run 1000 (by simp only [go_sem, Nat.reduceAdd, Nat.reduceLT, Nat.reduceEqDiff, reduceIte, reduceCtorEq, f4, hm, hk4'', hm16]; rfl) ?_
        refine WS_ret ⟨_, by simp only [go_sem, Nat.reduceAdd, Nat.reduceLT, Nat.reduceEqDiff, reduceIte, reduceCtorEq, k26]; rfl, ?_⟩
        exact fin
      · rw [if_neg (by intro hh; rcases hh with hh | hh; exact hm hh; exact hbad hh)] at hsc
        have hw1 : IntKind.wrap .i64 (Int.ofNat i + Int.ofNat m) = Int.ofNat (i + m) := wrap_add (by omega)
        have hc1 : i + m ≤ s.length := by omega
        have hc2 : i ≤ i + m := Nat.le_add_right _ _
        have hown1 := hown.ext (Nat.le_refl _) hx1
        have hN1 : aw.next ≤ w1.next := Nat.le_trans hext.le' hx1.next
        obtain ⟨v2, w2, happ, hown2, hx2⟩ := hown1.push (bytes := 32) hN1 (by omega) (news := wdCells ⟨kind, (s.drop i).take m, i⟩) rfl rfl (by omega) (by omega)
        have hel := elems_fresh (w := w1) (esz := 3) (n := 1) (c := .known 1) (cs := wdCells ⟨kind, (s.drop i).take m, i⟩) (by omega) rfl
        simp only [wdCells] at happ hel
        by_cases hk4 : kind < 4
        · have h16 : ¬ 16 < m := fun hh => hbad ⟨by omega, hh⟩
          refine WS_run 1000 (by simp only [go_sem, Nat.reduceAdd, Nat.reduceLT, Nat.reduceEqDiff, reduceIte, reduceCtorEq, f0, f5, f4, hm, hk4, h16, hw1, hc1, hc2, k26_1, evParts, fillV, V.cells, over, List.length_cons, List.length_nil, hel, happ]; rfl) ?_
          refine ih (s.length - (i + m)) _ _ (by omega) ⟨i + m, v2, done ++ [⟨kind, (s.drop i).take m, i⟩], (by simp only [go_sem, Nat.reduceAdd, Nat.reduceLT, Nat.reduceEqDiff, reduceIte, reduceCtorEq, f0] <;> rfl), (by simp only [go_sem, Nat.reduceAdd, Nat.reduceLT, Nat.reduceEqDiff, reduceIte, reduceCtorEq] <;> rfl), (by simp only [go_sem, Nat.reduceAdd, Nat.reduceLT, Nat.reduceEqDiff, reduceIte, reduceCtorEq] <;> rfl), ?_, hext.trans ((hx1.mono hext.le').trans hx2), by omega, ?_, by simp only [List.length_append, List.length_cons, List.length_nil]; omega, rfl⟩
          · rw [wdsCells_snoc, List.length_append]; exact hown2
          · rw [hsc, hd]
            have hdr : (c :: t).drop m = s.drop (i + m) := by rw [← hd, List.drop_drop]
            rw [hdr]
            simp
        · have h16 : True := trivial
          refine WS_run 1000 (by simp only [go_sem, Nat.reduceAdd, Nat.reduceLT, Nat.reduceEqDiff, reduceIte, reduceCtorEq, f0, f5, f4, hm, hk4, h16, hw1, hc1, hc2, k26_1, evParts, fillV, V.cells, over, List.length_cons, List.length_nil, hel, happ]; rfl) ?_
          refine ih (s.length - (i + m)) _ _ (by omega) ⟨i + m, v2, done ++ [⟨kind, (s.drop i).take m, i⟩], (by simp only [go_sem, Nat.reduceAdd, Nat.reduceLT, Nat.reduceEqDiff, reduceIte, reduceCtorEq, f0] <;> rfl), (by simp only [go_sem, Nat.reduceAdd, Nat.reduceLT, Nat.reduceEqDiff, reduceIte, reduceCtorEq] <;> rfl), (by simp only [go_sem, Nat.reduceAdd, Nat.reduceLT, Nat.reduceEqDiff, reduceIte, reduceCtorEq] <;> rfl), ?_, hext.trans ((hx1.mono hext.le').trans hx2), by omega, ?_, by simp only [List.length_append, List.length_cons, List.length_nil]; omega, rfl⟩
          · rw [wdsCells_snoc, List.length_append]; exact hown2
          · rw [hsc, hd]
            have hdr : (c :: t).drop m = s.drop (i + m) := by rw [← hd, List.drop_drop]
            rw [hdr]
            simp
  · have : i = s.length := by omega
    subst this
    refine WS_run 1000 (by simp only [go_sem, Nat.reduceAdd, Nat.reduceLT, Nat.reduceEqDiff, reduceIte, reduceCtorEq, k26_3, f0, f5, f4, hlt]; rfl) ?_
    refine WS_ret ⟨_, by simp only [go_sem, Nat.reduceAdd, Nat.reduceLT, Nat.reduceEqDiff, reduceIte, reduceCtorEq, k26]; rfl, ?_⟩
    rw [List.drop_length] at hsc
    have hz : scan s.length ([] : List Nat) = ([], true) := by rw [scan_eq]; rfl
    rw [hz] at hsc
    have e1 : l = done := by simpa using (Prod.mk.inj hsc).1
    have e2 : ok = true := (Prod.mk.inj hsc).2
    have := h2 v w (by rw [e1]; exact hown) hext
    rw [e2] at this
    exact this
end Go.Proofs.Ytjidefnbancmfaa
