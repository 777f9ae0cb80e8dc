/- A part of the proof: PLex4, W4, W5, W6, W7, PSyn1, PSyn2. -/
import Derived.Test.YtpbdojjfokelaaaDoorSeI
import Derived.Test.YtpbdojjfokelaaaDoorSeH
import Derived.Test.YtpbdojjfokelaaaDoorSeG
set_option linter.unusedVariables false
set_option linter.unusedSimpArgs false
namespace Go.Proofs.YtpbdojjfokelaaaDoor
open Go.AE Delphi
variable {tab : Tab}
def ScanI (s : List Nat) (l : List Wd) (ok : Bool) (aw : AW) (n : Nat) (f : Fr) (w : AW) : Prop := ∃ i v done, f.get 0 = some (.str s) ∧ f.get 5 = some (.int .i64 (Int.ofNat i)) ∧ f.get 4 = some v ∧ Own aw.next w v 3 done.length (wdsCells done) ∧ Ext aw.next aw w ∧ i ≤ s.length ∧
    (l, ok) = (done ++ (scan i (s.drop i)).1, (scan i (s.drop i)).2) ∧ done.length ≤ i ∧ n = s.length - i
set_option maxRecDepth 10000 in
set_option maxHeartbeats 1000000 in
theorem rscan_ok (C : Codes tab) {s : List Nat} {aw : AW} {K : V → AW → Prop} (hs : s.length ≤ 1099511627776)
    (h1 : 4000 < s.length → K (.tuple [.nilslice, .int .i64 8]) aw)
    (h2 : s.length ≤ 4000 → ∀ v aw', Own aw.next aw' v 3 (scan 0 s).1.length (wdsCells (scan 0 s).1) → Ext aw.next aw aw' → K (.tuple [v, .int .i64 (if (scan 0 s).2 then 0 else 4)]) aw') : WF tab n_ref8_Scan [.str s] aw K := by
  refine WF_of C.c_ref8_Scan rfl ?_
  obtain ⟨l, ok, hres⟩ : ∃ l ok, scan 0 s = (l, ok) := ⟨_, _, rfl⟩
  rw [hres] at h2
  simp only at h2
  by_cases hl : 4000 < s.length
  · refine WS_run 1000 (by simp only [go_sem, eRun_exit, Nat.reduceAdd, Nat.reduceLT, Nat.reduceEqDiff, reduceIte, reduceCtorEq, Nat.reduceLeDiff, k_ref8_Scan, hl]; rfl) ?_
    refine WS_ret ⟨_, by simp only [go_sem, eRun_exit, Nat.reduceAdd, Nat.reduceLT, Nat.reduceEqDiff, reduceIte, reduceCtorEq, Nat.reduceLeDiff, k_ref8_Scan]; rfl, ?_⟩
    exact h1 hl
  have h2 := h2 (by omega)
  refine WS_run 1000 (by simp only [go_sem, eRun_exit, Nat.reduceAdd, Nat.reduceLT, Nat.reduceEqDiff, reduceIte, reduceCtorEq, Nat.reduceLeDiff, k_ref8_Scan, hl]; rfl) ?_
  refine WS_loop (ScanI s l ok aw) ?_ s.length ⟨0, .nilslice, [], (by simp only [go_sem, eRun_exit, Nat.reduceAdd, Nat.reduceLT, Nat.reduceEqDiff, reduceIte, reduceCtorEq, Nat.reduceLeDiff] <;> rfl), (by simp only [go_sem, eRun_exit, Nat.reduceAdd, Nat.reduceLT, Nat.reduceEqDiff, reduceIte, reduceCtorEq, Nat.reduceLeDiff] <;> rfl), (by simp only [go_sem, eRun_exit, Nat.reduceAdd, Nat.reduceLT, Nat.reduceEqDiff, reduceIte, reduceCtorEq, Nat.reduceLeDiff] <;> rfl), .nil, Ext.refl aw, by omega, by rw [← hres]; simp, by simp, rfl⟩
  rintro n f w ⟨i, v, done, f0, f5, f4, hown, hext, hi, hsc, hdl, rfl⟩ ih
  by_cases hlt : i < s.length
  · obtain ⟨c, hc⟩ : ∃ c, s[i]? = some c := ⟨_, List.getElem?_eq_getElem hlt⟩
    have hd0 : s.drop i = c :: s.drop (i + 1) := by
      rw [List.drop_eq_getElem_cons hlt]; rw [List.getElem?_eq_getElem hlt] at hc; rw [Option.some.inj hc]
    have hw : IntKind.wrap .i64 (Int.ofNat i + 1) = Int.ofNat (i + 1) := wrap_succ (by omega)
    have skip : ∀ (j : Nat) f' , i < j → j ≤ s.length → blk false (s.drop i) = (j - i) + blk false (s.drop j) → f'.get 0 = some (.str s) → f'.get 5 = some (.int .i64 (Int.ofNat j)) → f'.get 4 = some v → ScanI s l ok aw (s.length - j) f' w := by
      intro j f' hij hj hb g0 g5 g4
      refine ⟨j, v, done, g0, g5, g4, hown, hext, hj, ?_, by omega, rfl⟩
      have e : s.drop j = (s.drop i).drop (j - i) := by rw [List.drop_drop]; congr 1; omega
      rw [hsc, scan_skip i (s.drop i) (j - i) (by rw [← e]; exact hb), ← e, show i + (j - i) = j by omega]
    have skip1 : isBlank c = true → ∀ f', f'.get 0 = some (.str s) → f'.get 5 = some (.int .i64 (Int.ofNat (i + 1))) → f'.get 4 = some v → ScanI s l ok aw (s.length - (i + 1)) f' w := fun hb f' g0 g5 g4 =>
      skip (i + 1) f' (by omega) (by omega) (by rw [hd0]; simp only [blk, hb, if_true]; omega) g0 g5 g4
    have rest : True := trivial
    by_cases b32 : c = 32
    · refine WS_run 1000 (by simp only [go_sem, eRun_exit, Nat.reduceAdd, Nat.reduceLT, Nat.reduceEqDiff, reduceIte, reduceCtorEq, Nat.reduceLeDiff, k_ref8_Scan_p3, k_ref8_Scan_p2, f0, f5, hlt, hc, hw, b32]; rfl) ?_
      exact ih _ _ _ (by omega) (skip1 (by simp [isBlank, b32]) _ (by simp only [go_sem, eRun_exit, Nat.reduceAdd, Nat.reduceLT, Nat.reduceEqDiff, reduceIte, reduceCtorEq, Nat.reduceLeDiff, f0] <;> rfl) (by simp only [go_sem, eRun_exit, Nat.reduceAdd, Nat.reduceLT, Nat.reduceEqDiff, reduceIte, reduceCtorEq, Nat.reduceLeDiff] <;> rfl) (by simp only [go_sem, eRun_exit, Nat.reduceAdd, Nat.reduceLT, Nat.reduceEqDiff, reduceIte, reduceCtorEq, Nat.reduceLeDiff, f4] <;> rfl))
    by_cases b9 : c = 9
    · refine WS_run 1000 (by simp only [go_sem, eRun_exit, Nat.reduceAdd, Nat.reduceLT, Nat.reduceEqDiff, reduceIte, reduceCtorEq, Nat.reduceLeDiff, k_ref8_Scan_p3, k_ref8_Scan_p2, f0, f5, hlt, hc, hw, b32, b9]; rfl) ?_
      exact ih _ _ _ (by omega) (skip1 (by simp [isBlank, b32, b9]) _ (by simp only [go_sem, eRun_exit, Nat.reduceAdd, Nat.reduceLT, Nat.reduceEqDiff, reduceIte, reduceCtorEq, Nat.reduceLeDiff, f0] <;> rfl) (by simp only [go_sem, eRun_exit, Nat.reduceAdd, Nat.reduceLT, Nat.reduceEqDiff, reduceIte, reduceCtorEq, Nat.reduceLeDiff] <;> rfl) (by simp only [go_sem, eRun_exit, Nat.reduceAdd, Nat.reduceLT, Nat.reduceEqDiff, reduceIte, reduceCtorEq, Nat.reduceLeDiff, f4] <;> rfl))
    by_cases b10 : c = 10
    · refine WS_run 1000 (by simp only [go_sem, eRun_exit, Nat.reduceAdd, Nat.reduceLT, Nat.reduceEqDiff, reduceIte, reduceCtorEq, Nat.reduceLeDiff, k_ref8_Scan_p3, k_ref8_Scan_p2, f0, f5, hlt, hc, hw, b32, b9, b10]; rfl) ?_
      exact ih _ _ _ (by omega) (skip1 (by simp [isBlank, b32, b9, b10]) _ (by simp only [go_sem, eRun_exit, Nat.reduceAdd, Nat.reduceLT, Nat.reduceEqDiff, reduceIte, reduceCtorEq, Nat.reduceLeDiff, f0] <;> rfl) (by simp only [go_sem, eRun_exit, Nat.reduceAdd, Nat.reduceLT, Nat.reduceEqDiff, reduceIte, reduceCtorEq, Nat.reduceLeDiff] <;> rfl) (by simp only [go_sem, eRun_exit, Nat.reduceAdd, Nat.reduceLT, Nat.reduceEqDiff, reduceIte, reduceCtorEq, Nat.reduceLeDiff, f4] <;> rfl))
    by_cases b13 : c = 13
    · refine WS_run 1000 (by simp only [go_sem, eRun_exit, Nat.reduceAdd, Nat.reduceLT, Nat.reduceEqDiff, reduceIte, reduceCtorEq, Nat.reduceLeDiff, k_ref8_Scan_p3, k_ref8_Scan_p2, f0, f5, hlt, hc, hw, b32, b9, b10, b13]; rfl) ?_
      exact ih _ _ _ (by omega) (skip1 (by simp [isBlank, b32, b9, b10, b13]) _ (by simp only [go_sem, eRun_exit, Nat.reduceAdd, Nat.reduceLT, Nat.reduceEqDiff, reduceIte, reduceCtorEq, Nat.reduceLeDiff, f0] <;> rfl) (by simp only [go_sem, eRun_exit, Nat.reduceAdd, Nat.reduceLT, Nat.reduceEqDiff, reduceIte, reduceCtorEq, Nat.reduceLeDiff] <;> rfl) (by simp only [go_sem, eRun_exit, Nat.reduceAdd, Nat.reduceLT, Nat.reduceEqDiff, reduceIte, reduceCtorEq, Nat.reduceLeDiff, f4] <;> rfl))
    have hnb : isBlank c = false := by simp [isBlank, b32, b9, b10, b13]
    by_cases h37 : c = 37
    · refine WS_run 1000 (by simp only [go_sem, eRun_exit, Nat.reduceAdd, Nat.reduceLT, Nat.reduceEqDiff, reduceIte, reduceCtorEq, Nat.reduceLeDiff, k_ref8_Scan_p3, k_ref8_Scan_p2, f0, f5, hlt, hc, b32, b9, b10, b13, h37]; rfl) ?_
      -- the note
      refine WS_loop (fun n f' w' => ∃ j, f'.get 0 = some (.str s) ∧ f'.get 5 = some (.int .i64 (Int.ofNat j)) ∧ f'.get 4 = some v ∧ i ≤ j ∧ j ≤ s.length ∧ blk false (s.drop i) = (j - i) + blk true (s.drop j) ∧ n = s.length - j ∧ w' = w) ?_ (s.length - i) ⟨i, (by simp only [go_sem, eRun_exit, Nat.reduceAdd, Nat.reduceLT, Nat.reduceEqDiff, reduceIte, reduceCtorEq, Nat.reduceLeDiff, f0] <;> rfl), (by simp only [go_sem, eRun_exit, Nat.reduceAdd, Nat.reduceLT, Nat.reduceEqDiff, reduceIte, reduceCtorEq, Nat.reduceLeDiff, f5] <;> rfl), (by simp only [go_sem, eRun_exit, Nat.reduceAdd, Nat.reduceLT, Nat.reduceEqDiff, reduceIte, reduceCtorEq, Nat.reduceLeDiff, f4] <;> rfl), by omega, hi, ?_, rfl, rfl⟩
      · rintro n f' w' ⟨j, g0, g5, g4, hij, hj, hbj, rfl, rfl⟩ ih2
        by_cases hjl : j < s.length
        · obtain ⟨d, hdc⟩ : ∃ d, s[j]? = some d := ⟨_, List.getElem?_eq_getElem hjl⟩
          have hdj : s.drop j = d :: s.drop (j + 1) := by
            rw [List.drop_eq_getElem_cons hjl]; rw [List.getElem?_eq_getElem hjl] at hdc; rw [Option.some.inj hdc]
          have hwj : IntKind.wrap .i64 (Int.ofNat j + 1) = Int.ofNat (j + 1) := wrap_succ (by omega)
          by_cases h10 : d = 10
          · refine WS_run 1000 (by simp only [go_sem, eRun_exit, Nat.reduceAdd, Nat.reduceLT, Nat.reduceEqDiff, reduceIte, reduceCtorEq, Nat.reduceLeDiff, k_ref8_Scan_p0, g0, g5, hjl, hdc, h10]; rfl) ?_
            have hne : i ≠ j := by
              intro he; subst he; rw [hc] at hdc; cases hdc; omega
            refine ih _ _ _ (by omega) (skip j _ (by omega) hj ?_ (by simp only [go_sem, eRun_exit, Nat.reduceAdd, Nat.reduceLT, Nat.reduceEqDiff, reduceIte, reduceCtorEq, Nat.reduceLeDiff, g0] <;> rfl) (by simp only [go_sem, eRun_exit, Nat.reduceAdd, Nat.reduceLT, Nat.reduceEqDiff, reduceIte, reduceCtorEq, Nat.reduceLeDiff, g5] <;> rfl) (by simp only [go_sem, eRun_exit, Nat.reduceAdd, Nat.reduceLT, Nat.reduceEqDiff, reduceIte, reduceCtorEq, Nat.reduceLeDiff, g4] <;> rfl))
            rw [hbj, hdj, h10]; simp [blk, isBlank]
          · refine WS_run 1000 (by simp only [go_sem, eRun_exit, Nat.reduceAdd, Nat.reduceLT, Nat.reduceEqDiff, reduceIte, reduceCtorEq, Nat.reduceLeDiff, k_ref8_Scan_p0, g0, g5, hjl, hdc, h10, hwj]; rfl) ?_
            refine ih2 (s.length - (j + 1)) _ _ (by omega) ⟨j + 1, (by simp only [go_sem, eRun_exit, Nat.reduceAdd, Nat.reduceLT, Nat.reduceEqDiff, reduceIte, reduceCtorEq, Nat.reduceLeDiff, g0] <;> rfl), (by simp only [go_sem, eRun_exit, Nat.reduceAdd, Nat.reduceLT, Nat.reduceEqDiff, reduceIte, reduceCtorEq, Nat.reduceLeDiff] <;> rfl), (by simp only [go_sem, eRun_exit, Nat.reduceAdd, Nat.reduceLT, Nat.reduceEqDiff, reduceIte, reduceCtorEq, Nat.reduceLeDiff, g4] <;> rfl), by omega, by omega, ?_, rfl, rfl⟩
            rw [hbj, hdj]; simp only [blk, if_neg h10]; omega
        · have : j = s.length := by omega
          subst this
          refine WS_run 1000 (by simp only [go_sem, eRun_exit, Nat.reduceAdd, Nat.reduceLT, Nat.reduceEqDiff, reduceIte, reduceCtorEq, Nat.reduceLeDiff, k_ref8_Scan_p0, g0, g5, hjl]; rfl) ?_
          refine ih _ _ _ (by omega) (skip s.length _ hlt hj ?_ (by simp only [go_sem, eRun_exit, Nat.reduceAdd, Nat.reduceLT, Nat.reduceEqDiff, reduceIte, reduceCtorEq, Nat.reduceLeDiff, g0] <;> rfl) (by simp only [go_sem, eRun_exit, Nat.reduceAdd, Nat.reduceLT, Nat.reduceEqDiff, reduceIte, reduceCtorEq, Nat.reduceLeDiff, g5] <;> rfl) (by simp only [go_sem, eRun_exit, Nat.reduceAdd, Nat.reduceLT, Nat.reduceEqDiff, reduceIte, reduceCtorEq, Nat.reduceLeDiff, g4] <;> rfl))
          rw [hbj, List.drop_length]; simp [blk]
      · rw [hd0, h37]; simp [blk, isBlank]
    · -- a word
      obtain ⟨t, hd⟩ : ∃ t, s.drop i = c :: t := ⟨_, hd0⟩
      have hbl : blk false (s.drop i) = 0 := by rw [hd]; simp [blk, hnb, h37]
      have hle := lexWord_le (c :: t)
      have hlen : (c :: t).length = s.length - i := by rw [← hd]; simp
      rw [scan_eq, hbl, List.drop_zero, hd] at hsc
      simp only [Nat.add_zero] at hsc
      refine WS_run 1000 (by simp only [go_sem, eRun_exit, Nat.reduceAdd, Nat.reduceLT, Nat.reduceEqDiff, reduceIte, reduceCtorEq, Nat.reduceLeDiff, k_ref8_Scan_p3, k_ref8_Scan_p2, k_ref8_Scan_p1, f0, f5, hlt, hi, hc, b32, b9, b10, b13, h37]; rfl) ?_
      refine WS_call (by simp only [go_sem, eRun_exit, Nat.reduceAdd, Nat.reduceLT, Nat.reduceEqDiff, reduceIte, reduceCtorEq, Nat.reduceLeDiff]) (by simp only [go_sem, eRun_exit, Nat.reduceAdd, Nat.reduceLT, Nat.reduceEqDiff, reduceIte, reduceCtorEq, Nat.reduceLeDiff]; rfl) ?_
      rw [hd]
      refine rword_ok (c := c) (t := t) C (by omega) ?_
      intro kind w1 hkd hx1
      generalize hlw : lexWord (c :: t) = lw at hle hsc hkd
      obtain ⟨k, m⟩ := lw
      simp only at hle hsc hkd
      by_cases hm : m = 0
      · rw [if_pos (.inl hm)] at hsc
        have e1 : l = done := by simpa using (Prod.mk.inj hsc).1
        have e2 : ok = false := (Prod.mk.inj hsc).2
        have fin := h2 v w1 (by rw [e1]; exact hown.ext (Nat.le_refl _) hx1) (hext.trans (hx1.mono hext.le'))
        rw [e2] at fin
        refine WS_run 1000 (by simp only [go_sem, eRun_exit, Nat.reduceAdd, Nat.reduceLT, Nat.reduceEqDiff, reduceIte, reduceCtorEq, Nat.reduceLeDiff, f4, hm]; rfl) ?_
        refine WS_ret ⟨_, by simp only [go_sem, eRun_exit, Nat.reduceAdd, Nat.reduceLT, Nat.reduceEqDiff, reduceIte, reduceCtorEq, Nat.reduceLeDiff, k_ref8_Scan]; rfl, ?_⟩
        exact fin
      obtain rfl := hkd hm
      have hk4 : kind ≤ 4 := by
        have : (lexWord (c :: t)).1 ≤ 4 := by
          simp only [lexWord]
          (repeat' split) <;> simp
        rw [hlw] at this; exact this
      by_cases hbad : kind ≠ 4 ∧ 16 < m
      · rw [if_pos (.inr hbad)] at hsc
        have e1 : l = done := by simpa using (Prod.mk.inj hsc).1
        have e2 : ok = false := (Prod.mk.inj hsc).2
        have fin := h2 v w1 (by rw [e1]; exact hown.ext (Nat.le_refl _) hx1) (hext.trans (hx1.mono hext.le'))
        rw [e2] at fin
        obtain ⟨hk4', hm16⟩ := hbad
        have hk4'' : kind < 4 := by omega
        refine WS_run 1000 (by simp only [go_sem, eRun_exit, Nat.reduceAdd, Nat.reduceLT, Nat.reduceEqDiff, reduceIte, reduceCtorEq, Nat.reduceLeDiff, f4, hm, hk4'', hm16]; rfl) ?_
        refine WS_ret ⟨_, by simp only [go_sem, eRun_exit, Nat.reduceAdd, Nat.reduceLT, Nat.reduceEqDiff, reduceIte, reduceCtorEq, Nat.reduceLeDiff, k_ref8_Scan]; rfl, ?_⟩
        exact fin
      · rw [if_neg (by intro hh; rcases hh with hh | hh; exact hm hh; exact hbad hh)] at hsc
        have hw1 : IntKind.wrap .i64 (Int.ofNat i + Int.ofNat m) = Int.ofNat (i + m) := wrap_add (by omega)
        have hc1 : i + m ≤ s.length := by omega
        have hc2 : i ≤ i + m := Nat.le_add_right _ _
        have hown1 := hown.ext (Nat.le_refl _) hx1
        have hN1 : aw.next ≤ w1.next := Nat.le_trans hext.le' hx1.next
        obtain ⟨v2, w2, happ, hown2, hx2⟩ := hown1.push (bytes := 32) hN1 (by omega) (news := wdCells ⟨kind, (s.drop i).take m, i⟩) rfl rfl (by omega) (by omega)
        have hel := elems_fresh (w := w1) (esz := 3) (n := 1) (c := .known 1) (cs := wdCells ⟨kind, (s.drop i).take m, i⟩) (by omega) rfl
        simp only [wdCells] at happ hel
        by_cases hk4 : kind < 4
        · have h16 : ¬ 16 < m := fun hh => hbad ⟨by omega, hh⟩
          refine WS_run 1000 (by simp only [go_sem, eRun_exit, Nat.reduceAdd, Nat.reduceLT, Nat.reduceEqDiff, reduceIte, reduceCtorEq, Nat.reduceLeDiff, f0, f5, f4, hm, hk4, h16, hw1, hc1, hc2, k_ref8_Scan_p1, evParts, fillV, V.cells, over, List.length_cons, List.length_nil, hel, happ]; rfl) ?_
          refine ih (s.length - (i + m)) _ _ (by omega) ⟨i + m, v2, done ++ [⟨kind, (s.drop i).take m, i⟩], (by simp only [go_sem, eRun_exit, Nat.reduceAdd, Nat.reduceLT, Nat.reduceEqDiff, reduceIte, reduceCtorEq, Nat.reduceLeDiff, f0] <;> rfl), (by simp only [go_sem, eRun_exit, Nat.reduceAdd, Nat.reduceLT, Nat.reduceEqDiff, reduceIte, reduceCtorEq, Nat.reduceLeDiff] <;> rfl), (by simp only [go_sem, eRun_exit, Nat.reduceAdd, Nat.reduceLT, Nat.reduceEqDiff, reduceIte, reduceCtorEq, Nat.reduceLeDiff] <;> rfl), ?_, hext.trans ((hx1.mono hext.le').trans hx2), by omega, ?_, by simp only [List.length_append, List.length_cons, List.length_nil]; omega, rfl⟩
          · rw [wdsCells_snoc, List.length_append]; exact hown2
          · rw [hsc, hd]
            have hdr : (c :: t).drop m = s.drop (i + m) := by rw [← hd, List.drop_drop]
            rw [hdr]
            simp
        · have h16 : True := trivial
          refine WS_run 1000 (by simp only [go_sem, eRun_exit, Nat.reduceAdd, Nat.reduceLT, Nat.reduceEqDiff, reduceIte, reduceCtorEq, Nat.reduceLeDiff, f0, f5, f4, hm, hk4, h16, hw1, hc1, hc2, k_ref8_Scan_p1, evParts, fillV, V.cells, over, List.length_cons, List.length_nil, hel, happ]; rfl) ?_
          refine ih (s.length - (i + m)) _ _ (by omega) ⟨i + m, v2, done ++ [⟨kind, (s.drop i).take m, i⟩], (by simp only [go_sem, eRun_exit, Nat.reduceAdd, Nat.reduceLT, Nat.reduceEqDiff, reduceIte, reduceCtorEq, Nat.reduceLeDiff, f0] <;> rfl), (by simp only [go_sem, eRun_exit, Nat.reduceAdd, Nat.reduceLT, Nat.reduceEqDiff, reduceIte, reduceCtorEq, Nat.reduceLeDiff] <;> rfl), (by simp only [go_sem, eRun_exit, Nat.reduceAdd, Nat.reduceLT, Nat.reduceEqDiff, reduceIte, reduceCtorEq, Nat.reduceLeDiff] <;> rfl), ?_, hext.trans ((hx1.mono hext.le').trans hx2), by omega, ?_, by simp only [List.length_append, List.length_cons, List.length_nil]; omega, rfl⟩
          · rw [wdsCells_snoc, List.length_append]; exact hown2
          · rw [hsc, hd]
            have hdr : (c :: t).drop m = s.drop (i + m) := by rw [← hd, List.drop_drop]
            rw [hdr]
            simp
  · have : i = s.length := by omega
    subst this
    refine WS_run 1000 (by simp only [go_sem, eRun_exit, Nat.reduceAdd, Nat.reduceLT, Nat.reduceEqDiff, reduceIte, reduceCtorEq, Nat.reduceLeDiff, k_ref8_Scan_p3, f0, f5, f4, hlt]; rfl) ?_
    refine WS_ret ⟨_, by simp only [go_sem, eRun_exit, Nat.reduceAdd, Nat.reduceLT, Nat.reduceEqDiff, reduceIte, reduceCtorEq, Nat.reduceLeDiff, k_ref8_Scan]; rfl, ?_⟩
    rw [List.drop_length] at hsc
    have hz : scan s.length ([] : List Nat) = ([], true) := by rw [scan_eq]; rfl
    rw [hz] at hsc
    have e1 : l = done := by simpa using (Prod.mk.inj hsc).1
    have e2 : ok = true := (Prod.mk.inj hsc).2
    have := h2 v w (by rw [e1]; exact hown) hext
    rw [e2] at this
    exact this
end Go.Proofs.YtpbdojjfokelaaaDoor
set_option linter.unusedVariables false
set_option linter.unusedSectionVars false
set_option linter.unusedSimpArgs false
namespace Go.AE
variable [Globs]
structure Frm (S : Nat → Prop) (w w' : AW) : Prop where
  next : w.next ≤ w'.next
  heap : ∀ b, b < w.next → ¬ S b → w'.heap.get b = w.heap.get b
  fams : ∀ b, b < w.next → ¬ S b → w'.fams.get b = w.fams.get b
theorem Frm.refl {S : Nat → Prop} (w : AW) : Frm S w w := ⟨Nat.le_refl _, fun _ _ _ => rfl, fun _ _ _ => rfl⟩
theorem Frm.trans {S T U : Nat → Prop} {a b c : AW} (h : Frm S a b) (h' : Frm T b c) (hs : ∀ x, x < a.next → S x → U x) (ht : ∀ x, x < a.next → T x → U x) : Frm U a c :=
  ⟨Nat.le_trans h.next h'.next, fun k hk hu => (h'.heap k (Nat.lt_of_lt_of_le hk h.next) fun x => hu (ht k hk x)).trans (h.heap k hk fun x => hu (hs k hk x)),
   fun k hk hu => (h'.fams k (Nat.lt_of_lt_of_le hk h.next) fun x => hu (ht k hk x)).trans (h.fams k hk fun x => hu (hs k hk x))⟩
theorem Frm.mono {S T : Nat → Prop} {a b : AW} (h : Frm S a b) (hs : ∀ x, x < a.next → S x → T x) : Frm T a b := ⟨h.next, fun k hk hu => h.heap k hk fun x => hu (hs k hk x), fun k hk hu => h.fams k hk fun x => hu (hs k hk x)⟩
theorem Frm.new {S : Nat → Prop} (w : AW) (x : Blk) : Frm S w (w.new x) := ⟨Nat.le_succ _, fun b hb _ => T.get_put_ne (by omega), fun _ _ _ => rfl⟩
theorem Ext.frm {N : Nat} {w w' : AW} (h : Ext N w w') {S : Nat → Prop} (hs : ∀ x, x < w.next → N ≤ x → S x) : Frm S w w' :=
  ⟨h.next, fun b hb hn => h.heap b (Nat.lt_of_not_le fun x => hn (hs b hb x)), fun b hb hn => h.fams b (Nat.lt_of_not_le fun x => hn (hs b hb x))⟩
theorem Frm.ext {N : Nat} {w w' : AW} {S : Nat → Prop} (h : Frm S w w') (hN : N ≤ w.next) (hs : ∀ x, S x → N ≤ x) : Ext N w w' :=
  ⟨hN, h.next, fun b hb => h.heap b (by omega) fun x => by have := hs b x; omega, fun b hb => h.fams b (by omega) fun x => by have := hs b x; omega⟩
def Grown (S S' : Nat → Prop) (w w' : AW) : Prop := ∀ b, S' b → b < w'.next ∧ (S b ∨ w.next ≤ b)
def Shr (S : Nat → Prop) (w : AW) (b : Nat) (sh : Share) : Prop :=
  sh = .own ∨ sh = .lax ∨ ∃ f F, sh = .fam f ∧ S f ∧ f < w.next ∧ w.fams.get f = some F ∧ F.last = b ∧ F.floor ≤ w.next ∧ w.alive b sh = true
theorem Shr.alive {S : Nat → Prop} {w : AW} {b : Nat} {sh : Share} (h : Shr S w b sh) : w.alive b sh = true := by
  rcases h with rfl | rfl | ⟨f, F, rfl, h1, h2, h3, h4, h6, h5⟩
  · rfl
  · rfl
  · exact h5
theorem Shr.mono {S S' : Nat → Prop} {w : AW} {b : Nat} {sh : Share} (h : Shr S w b sh) (hs : ∀ x, S x → S' x) : Shr S' w b sh := by
  rcases h with rfl | rfl | ⟨f, F, rfl, h1, h2⟩
  · exact .inl rfl
  · exact .inr (.inl rfl)
  · exact .inr (.inr ⟨f, F, rfl, hs _ h1, h2⟩)
theorem Shr.frm {S T : Nat → Prop} {w w' : AW} {b : Nat} {sh : Share} (h : Shr S w b sh) (hf : Frm T w w') (hd : ∀ x, S x → ¬ T x) : Shr S w' b sh := by
  rcases h with rfl | rfl | ⟨f, F, rfl, h1, h2, h3, h4, h6, h5⟩
  · exact .inl rfl
  · exact .inr (.inl rfl)
  · have e := hf.fams f h2 (hd f h1)
    refine .inr (.inr ⟨f, F, rfl, h1, Nat.lt_of_lt_of_le h2 hf.next, e.trans h3, h4, Nat.le_trans h6 hf.next, ?_⟩)
    simp only [AW.alive, h3, e.trans h3] at h5 ⊢
    exact h5
inductive Buf (S : Nat → Prop) (w : AW) : V → Nat → Nat → List V → Prop
  | nil {esz : Nat} : Buf S w .nilslice esz 0 []
  | blk {b n esz r : Nat} {cs rest : List V} {sh : Share} (hS : S b) (hb : b < w.next) (hx : w.heap.get b = some (.cells (cs ++ rest) sh)) (hl : cs.length = n * esz) (hr : rest.length = r * esz) (he : 0 < esz) (hn : 0 < n + r) (hs : Shr S w b sh) :
      Buf S w (.slice b 0 n (.upTo esz)) esz n cs
theorem Buf.mono {S S' : Nat → Prop} {w : AW} {v : V} {esz n : Nat} {cs : List V} (h : Buf S w v esz n cs) (hs : ∀ x, S x → S' x) : Buf S' w v esz n cs := by
  cases h with
  | nil => exact .nil
  | blk hS hb hx hl hr he hn hsh => exact .blk (hs _ hS) hb hx hl hr he hn (hsh.mono hs)
theorem Buf.frm {S T : Nat → Prop} {w w' : AW} {v : V} {esz n : Nat} {cs : List V} (h : Buf S w v esz n cs) (hf : Frm T w w') (hd : ∀ x, S x → ¬ T x) : Buf S w' v esz n cs := by
  cases h with
  | nil => exact .nil
  | blk hS hb hx hl hr he hn hsh => exact .blk hS (Nat.lt_of_lt_of_le hb hf.next) ((hf.heap _ hb (hd _ hS)).trans hx) hl hr he hn (hsh.frm hf hd)
theorem Buf.len {S : Nat → Prop} {w : AW} {v : V} {esz n : Nat} {cs : List V} (h : Buf S w v esz n cs) : cs.length = n * esz := by
  cases h with
  | nil => simp
  | blk hS hb hx hl hr he hn hsh => exact hl
theorem Buf.inv {S : Nat → Prop} {w : AW} {v : V} {esz n : Nat} {cs : List V} (h : Buf S w v esz n cs) : (v = .nilslice ∧ n = 0 ∧ cs = []) ∨ ∃ b, v = .slice b 0 n (.upTo esz) ∧ S b ∧ b < w.next := by
  cases h with
  | nil => exact .inl ⟨rfl, rfl, rfl⟩
  | blk hS hb hx hl hr he hn hsh => exact .inr ⟨_, rfl, hS, hb⟩
theorem Buf.load {S : Nat → Prop} {w : AW} {b n esz : Nat} {c : Cap} {cs : List V} (h : Buf S w (.slice b 0 n c) esz n cs) {o k : Nat} (hk : o + k ≤ cs.length) : w.load b o k = some ((cs.drop o).take k) := by
  cases h with
  | blk hS hb hx hl hr he hn hsh =>
    simp only [AW.load, hx, hsh.alive]
    rw [takeN_some _ _ (by simp; omega), List.drop_append_of_le_length (by omega), List.take_append_of_le_length (by simp; omega)]
theorem over_mid : ∀ (a b c d : List V), d.length = b.length → over (a ++ b ++ c) a.length d = some (a ++ d ++ c)
  | [], b, c, d, h => by
    have : ∀ (b d : List V), d.length = b.length → over (b ++ c) 0 d = some (d ++ c) := by
      intro b
      induction b with
      | nil => intro d h; cases d with
        | nil => cases hc : c <;> rfl
        | cons x d => simp at h
      | cons y b ih => intro d h; cases d with
        | nil => simp at h
        | cons x d => simp only [List.cons_append, over, ih d (by simpa using h)]
    simpa using this b d h
  | x :: a, b, c, d, h => by
    have := over_mid a b c d h
    simp only [List.cons_append, List.length_cons, over, this]
theorem turn_frm {S : Nat → Prop} {w : AW} {b : Nat} {l : List V} {sh : Share} (hS : S b) (hs : Shr S w b sh) : Frm S w (w.turn b (.cells l sh)) := by
  refine ⟨Nat.le_refl _, fun c hc hn => T.get_put_ne fun e => hn (e ▸ hS), fun c hc hn => ?_⟩
  rcases hs with rfl | rfl | ⟨f, F, rfl, h1, h2⟩
  · rfl
  · rfl
  · exact T.get_put_ne fun e => hn (e ▸ h1)
theorem turn_shr {S : Nat → Prop} {w : AW} {b : Nat} {l : List V} {sh : Share} (hb : b < w.next) (hs : Shr S w b sh) : Shr S (w.turn b (.cells l sh)) b sh := by
  rcases hs with rfl | rfl | ⟨f, F, rfl, h1, h2, h3⟩
  · exact .inl rfl
  · exact .inr (.inl rfl)
  · have e : (w.turn b (.cells l (.fam f))).fams.get f = some ⟨b, w.next, b⟩ := T.get_put_same
    exact .inr (.inr ⟨f, _, rfl, h1, h2, e, rfl, Nat.le_refl _, by simp only [AW.alive, e, Nat.beq_refl, Bool.true_or]⟩)
theorem store_shr {S : Nat → Prop} {w : AW} {b o : Nat} {l l' vs : List V} {sh : Share} (hx : w.heap.get b = some (.cells l sh)) (hs : Shr S w b sh) (h1 : allOne vs = true) (ho : over l o vs = some l') : w.store b o vs = some (w.turn b (.cells l' sh)) := by
  have ha := hs.alive
  rcases hs with rfl | rfl | ⟨f, F, rfl, _⟩ <;> simp only [AW.store, hx, ha, h1, ho]
theorem Buf.add {S : Nat → Prop} {w : AW} {v : V} {esz n bytes : Nat} {cs news : List V} (h : Buf S w v esz n cs) (he : 0 < esz) (hl : news.length = esz) (h1 : allOne news = true) (hb : (n + 1) * bytes ≤ 70368744177664) (hb' : n + 1 ≤ 70368744177664) :
    ∃ v' w' S', w.appendV esz bytes v 1 news = some (v', w') ∧ Buf S' w' v' esz (n + 1) (cs ++ news) ∧ Frm S w w' ∧ Grown S S' w w' := by
  have hcl := h.len
  cases h with
  | nil =>
    refine ⟨.slice w.next 0 1 (.upTo esz), w.fresh news, fun b => b = w.next, ?_, ?_, Frm.new _ _, ?_⟩
    · simp only [AW.appendV]; rw [if_pos ⟨by simpa using hb, by omega⟩]
    · exact .blk (r := 0) (rest := []) rfl (Nat.lt_succ_self _) (by rw [List.append_nil]; exact T.get_put_same) (by simpa using hl) (by simp) he (by omega) (.inl rfl)
    · rintro b rfl; exact ⟨Nat.lt_succ_self _, .inr (Nat.le_refl _)⟩
  | @blk b _ _ r _ rest sh hS hbw hx hlen hr he' hn hs =>
    have happ : w.appendV esz bytes (.slice b 0 n (.upTo esz)) 1 news = w.appendUp esz b 0 n 1 news := if_pos ⟨rfl, hb, hb', h1, he⟩
    rw [happ]
    cases r with
    | succ r =>
      -- room behind it
      have hne : Nat.beq (0 + n * esz) (cs ++ rest).length = false := by
        rw [natBeq, decide_eq_false_iff_not, List.length_append, hlen, hr, Nat.add_mul, Nat.one_mul]; omega
      have hfit : Nat.ble (0 + (n + 1) * esz) (cs ++ rest).length = true := by
        rw [natBle, decide_eq_true_eq, List.length_append, hlen, hr, Nat.add_mul, Nat.add_mul, Nat.one_mul]; omega
      obtain ⟨r1, r2, rfl, hr1⟩ : ∃ r1 r2, rest = r1 ++ r2 ∧ r1.length = esz := ⟨rest.take esz, rest.drop esz, (List.take_append_drop _ _).symm, by rw [List.length_take, hr, Nat.add_mul, Nat.one_mul]; omega⟩
      have hov : over (cs ++ (r1 ++ r2)) (0 + n * esz) news = some (cs ++ news ++ r2) := by
        rw [← List.append_assoc, Nat.zero_add, ← hlen]; exact over_mid _ _ _ _ (by omega)
      refine ⟨.slice b 0 (n + 1) (.upTo esz), w.turn b (.cells (cs ++ news ++ r2) sh), fun x => S x ∧ x < w.next, ?_, ?_, turn_frm hS hs, ?_⟩
      · simp only [AW.appendUp, hx, hne, hfit, store_shr hx hs h1 hov]
      · refine .blk (r := r) ⟨hS, hbw⟩ hbw T.get_put_same (by rw [List.length_append, hlen, hl, Nat.add_mul, Nat.one_mul]) ?_ he (by omega) ?_
        · rw [List.length_append, hr1, Nat.add_mul, Nat.one_mul] at hr; omega
        · rcases turn_shr (l := cs ++ news ++ r2) hbw hs with rfl | rfl | ⟨f, F, rfl, q1, q2, q3⟩
          · exact .inl rfl
          · exact .inr (.inl rfl)
          · exact .inr (.inr ⟨f, F, rfl, ⟨q1, q2⟩, q2, q3⟩)
      · rintro x ⟨q1, q2⟩; exact ⟨q2, .inl q1⟩
    | zero =>
      have hr0 : rest = [] := List.length_eq_zero_iff.1 (by simpa using hr)
      subst hr0
      rw [List.append_nil] at hx
      have hbeq : Nat.beq (0 + n * esz) cs.length = true := by rw [Nat.zero_add, hlen, Nat.beq_refl]
      have fam : ∀ (u : AW) (f : Nat) (F : Fam), w.next ≤ u.next → Frm S w u → u.heap.get b = some (.cells cs (.fam f)) → (S f ∨ w.next ≤ f) → f < u.next → b < u.next → u.fams.get f = some F → F.last = b → F.floor ≤ u.next → u.alive b (.fam f) = true →
          ∃ v' w' S', u.appendFam esz b 0 n 1 news = some (v', w') ∧ Buf S' w' v' esz (n + 1) (cs ++ news) ∧ Frm S w w' ∧ Grown S S' w w' := by
        intro u f F hle hfu hx hSf hfl hbu hF hlast hflo hal
        refine ⟨.slice u.next 0 (n + 1) (.upTo esz), u.grow b f F (cs.drop 0 ++ news), fun x => x = u.next ∨ x = f, ?_, ?_, ?_, ?_⟩
        · simp only [AW.appendFam, hx, hal, hF, hbeq]
        · have hg : (u.grow b f F (cs.drop 0 ++ news)).fams.get f = some ⟨F.keep, F.floor, u.next⟩ := by
            simp only [AW.grow, T.get_putk, if_true, hlast, Nat.beq_refl]
          refine .blk (r := 0) (rest := []) (sh := .fam f) (.inl rfl) (Nat.lt_succ_self _) ?_ ?_ (by simp) he (by omega) (.inr (.inr ⟨f, ⟨F.keep, F.floor, u.next⟩, rfl, .inr rfl, Nat.lt_succ_of_lt hfl, hg, rfl, Nat.le_succ_of_le hflo, ?_⟩))
          · simp only [AW.grow, T.get_putk, if_true, List.drop_zero, List.append_nil]
          · rw [List.length_append, hlen, hl, Nat.add_mul, Nat.one_mul]
          · simp only [AW.alive, hg, Bool.or_eq_true]
            exact .inr (Nat.ble_eq_true_of_le hflo)
        · refine hfu.trans (T := fun x => x = f ∨ u.next ≤ x) ⟨Nat.le_succ _, fun c hc hn => T.get_put_ne (by omega), fun c hc hn => T.get_put_ne fun e => hn (.inl e)⟩ (fun x hx h => h) ?_
          rintro x hx (rfl | h)
          · rcases hSf with h | h
            · exact h
            · omega
          · omega
        · rintro x (rfl | rfl)
          · exact ⟨Nat.lt_succ_self _, .inr hle⟩
          · exact ⟨Nat.lt_succ_of_lt hfl, hSf⟩
      have fnd : sh = .own ∨ sh = .lax → ∃ v' w' S', (w.found b cs).appendFam esz b 0 n 1 news = some (v', w') ∧ Buf S' w' v' esz (n + 1) (cs ++ news) ∧ Frm S w w' ∧ Grown S S' w w' := by
        intro _
        refine fam (w.found b cs) w.next ⟨b, w.next + 1, b⟩ (Nat.le_succ _) ⟨Nat.le_succ _, fun c hc hn => T.get_put_ne fun e => hn (e ▸ hS), fun c hc hn => T.get_put_ne (by omega)⟩ T.get_put_same (.inr (Nat.le_refl _)) (Nat.lt_succ_self _) (Nat.lt_succ_of_lt hbw) T.get_put_same rfl (Nat.le_refl _) ?_
        simp only [AW.alive, AW.found, T.get_putk, if_true, Nat.beq_refl, Bool.true_or]
      simp only [AW.appendUp, hx, hbeq, List.append_nil]
      rcases hs with rfl | rfl | ⟨f, F, rfl, g1, g2, g3, g4, g6, g5⟩
      · exact fnd (.inl rfl)
      · exact fnd (.inr rfl)
      · exact fam w f F (Nat.le_refl _) (Frm.refl _) hx (.inl g1) g2 hbw g3 g4 g6 g5
theorem Buf.push {S : Nat → Prop} {w : AW} {v : V} {esz n bytes : Nat} {cs news : List V} (h : Buf S w v esz n cs) (hS : ∀ b, S b → b < w.next) (he : 0 < esz) (hl : news.length = esz) (h1 : allOne news = true) (hb : (n + 1) * bytes ≤ 70368744177664) (hb' : n + 1 ≤ 70368744177664) :
    ∃ v' w' S', (w.fresh news).appendV esz bytes v 1 news = some (v', w') ∧ Buf S' w' v' esz (n + 1) (cs ++ news) ∧ Frm S w w' ∧ Grown S S' w w' := by
  have hx : Frm (fun _ => False) w (w.fresh news) := Frm.new _ _
  obtain ⟨v', w', S', h2, h3, h4, h5⟩ := (h.frm hx fun _ _ h => h).add (news := news) (bytes := bytes) he hl h1 hb hb'
  refine ⟨v', w', S', h2, h3, hx.trans h4 (fun _ _ h => h.elim) fun _ _ h => h, fun b hb => ?_⟩
  obtain ⟨q1, q2⟩ := h5 b hb
  exact ⟨q1, q2.imp id fun h => Nat.le_trans hx.next h⟩
theorem Buf.insert {S : Nat → Prop} {w : AW} {b n bytes i bv : Nat} {cs : List V} {x : V} (h : Buf S w (.slice b 0 n (.upTo 1)) 1 n cs) (hi : i < n) (hv : w.heap.get bv = some (.cells [x] .own)) (hne : bv ≠ b) (h1 : x.one = true) (h2 : allOne cs = true) (hb : (n + 1) * bytes ≤ 70368744177664) (hb' : n + 1 ≤ 70368744177664) {k : Nat} :
    ∃ v' w' S', insPrim bytes [.slice b 0 n (.upTo 1), .int .i64 (.ofNat i), .slice bv 0 1 (.known k)] w = some (v', w') ∧ Buf S' w' v' 1 (n + 1) (cs.take i ++ [x] ++ cs.drop i) ∧ Frm S w w' ∧ Grown S S' w w' := by
  have hcl := h.len
  rw [Nat.mul_one] at hcl
  have hld := h.load (o := 0) (k := n) (by omega)
  rw [List.drop_zero, List.take_of_length_le (by omega)] at hld
  have hvl : w.load bv 0 1 = some [x] := by simp only [AW.load, hv, AW.alive, List.drop_zero, takeN]
  have hbv : Nat.beq bv b = false := by rw [natBeq, decide_eq_false hne]
  have hone : allOne [x] = true := by simp [allOne, h1]
  cases h with
  | @blk _ _ _ r _ rest sh hS hbw hx hlen hr he' hn hs =>
    have fam : ∀ (u : AW) (f : Nat), w.next ≤ u.next → Frm S w u → u.heap.get b = some (.cells (cs ++ rest) (.fam f)) → (S f ∨ w.next ≤ f) → f < u.next →
        ∃ v' w' S', u.insFam b n 1 (cs.take i ++ [x] ++ cs.drop i) = some (v', w') ∧ Buf S' w' v' 1 (n + 1) (cs.take i ++ [x] ++ cs.drop i) ∧ Frm S w w' ∧ Grown S S' w w' := by
      intro u f hle hfu hx hSf hfl
      refine ⟨.slice u.next 0 (n + 1) (.upTo 1), u.reborn f (cs.take i ++ [x] ++ cs.drop i), fun x => x = u.next, ?_, ?_, ?_, ?_⟩
      · simp only [AW.insFam, hx]
      · refine .blk (r := 0) (rest := []) (sh := .lax) rfl (Nat.lt_succ_self _) (by rw [List.append_nil]; exact T.get_put_same) ?_ (by simp) (by omega) (by omega) (.inr (.inl rfl))
        simp only [List.length_append, List.length_take, List.length_drop, List.length_cons, List.length_nil]; omega
      · refine hfu.trans (T := fun x => x = f ∨ u.next ≤ x) ⟨Nat.le_succ _, fun c hc hn => T.get_put_ne (by omega), fun c hc hn => T.get_put_ne fun e => hn (.inl e)⟩ (fun x hx h => h) ?_
        rintro x hx (rfl | h)
        · rcases hSf with h | h
          · exact h
          · omega
        · omega
      · rintro x rfl
        exact ⟨Nat.lt_succ_self _, .inr hle⟩
    have fnd : (w.found b (cs ++ rest)).alive b (.fam w.next) = true ∧ ∃ v' w' S', (w.found b (cs ++ rest)).insFam b n 1 (cs.take i ++ [x] ++ cs.drop i) = some (v', w') ∧ Buf S' w' v' 1 (n + 1) (cs.take i ++ [x] ++ cs.drop i) ∧ Frm S w w' ∧ Grown S S' w w' :=
      ⟨by simp only [AW.alive, AW.found, T.get_putk, if_true, Nat.beq_refl, Bool.true_or],
        fam _ w.next (Nat.le_succ _) ⟨Nat.le_succ _, fun c hc hn => T.get_put_ne fun e => hn (e ▸ hS), fun c hc hn => T.get_put_ne (by omega)⟩ T.get_put_same (.inr (Nat.le_refl _)) (Nat.lt_succ_self _)⟩
    have e1 : Nat.blt i n = true := by rw [natBlt, decide_eq_true hi]
    have e2 : Nat.blt 0 1 = true := rfl
    have e3 : Nat.ble ((n + 1) * bytes) 70368744177664 = true := Nat.ble_eq_true_of_le hb
    have e4 : Nat.ble (n + 1) 70368744177664 = true := Nat.ble_eq_true_of_le hb'
    rcases hs with rfl | rfl | ⟨f, F, rfl, g1, g2, g3, g4, g6, g5⟩
    · simp only [insPrim, e1, e2, e3, e4, hbv, hv, hvl, hld, hone, h2, hx, fnd.1]; exact fnd.2
    · simp only [insPrim, e1, e2, e3, e4, hbv, hv, hvl, hld, hone, h2, hx, fnd.1]; exact fnd.2
    · simp only [insPrim, e1, e2, e3, e4, hbv, hv, hvl, hld, hone, h2, hx]; exact fam w f (Nat.le_refl _) (Frm.refl _) hx (.inl g1) g2
end Go.AE
set_option linter.unusedVariables false
set_option linter.unusedSectionVars false
set_option linter.unusedSimpArgs false
namespace Go.AE
variable [Globs]
section
variable {tab : Tab}
def mkStp (fr : Fr) (hide : List Nat) (v : V) (a b : AW) : Stp := ⟨hideL fr hide, v, a, b⟩
theorem mkStp_fe {fr : Fr} {hide : List Nat} {v : V} {a b : AW} : (mkStp fr hide v a b).fe = hideL fr hide := rfl
theorem mkStp_v {fr : Fr} {hide : List Nat} {v : V} {a b : AW} : (mkStp fr hide v a b).v = v := rfl
theorem mkStp_0 {fr : Fr} {hide : List Nat} {v : V} {a b : AW} : (mkStp fr hide v a b).aw0 = a := rfl
theorem mkStp_1 {fr : Fr} {hide : List Nat} {v : V} {a b : AW} : (mkStp fr hide v a b).aw1 = b := rfl
theorem pass_at {l : List DOper} {fr : Fr} {aw : AW} {st : List Stp} {fr' : Fr} {aw' : AW} (h : Pass tab l fr aw st fr' aw') : ∀ {i : Nat} {d : DOper} {s : Stp}, l[i]? = some d → st[i]? = some s → OneAt d s := by
  induction l generalizing fr aw st with
  | nil => intro i d s hd; simp at hd
  | cons x l ih =>
    intro i d s hd hs
    cases h
    rename_i h1 h2
    cases i with
    | succ i => exact ih h2 (by simpa using hd) (by simpa using hs)
    | zero =>
      simp at hd hs
      subst hd; subst hs
      cases h1 with
      | pass hw => exact .inl hw
      | val hw ha => exact .inr ⟨hw, fun _ => ⟨_, ha⟩⟩
      | skip hw ha => exact .inr ⟨hw, fun hq => by obtain ⟨_, v, h⟩ := quiet_ok hq ha; cases h⟩
      | call hw ha hc => exact .inr ⟨hw, fun hq => by obtain ⟨_, v, h⟩ := quiet_ok hq ha; cases h⟩
      | ext hw ha hc => exact .inr ⟨hw, fun hq => by obtain ⟨_, v, h⟩ := quiet_ok hq ha; cases h⟩
theorem drawnOK_of {l : List DOper} {fr : Fr} {aw : AW} {st : List Stp} {fr' : Fr} {aw' : AW} (h : Pass tab l fr aw st fr' aw') (hc : chkAll l st (pairs l)) : drawnOK l st = true := drawnOK_at h.len (fun i d s => pass_at h) hc
def WDs (tab : Tab) (l : List DOper) (fr : Fr) (aw : AW) (acc : List Stp) (K : List Stp → Fr → AW → Prop) : Prop := WD tab l fr aw fun st f a => K (acc.reverse ++ st) f a
theorem WDs_nil {fr : Fr} {aw : AW} {acc : List Stp} {K : List Stp → Fr → AW → Prop} (h : K acc.reverse fr aw) : WDs tab [] fr aw acc K := by
  unfold WDs; rw [WD_nil, List.append_nil]; exact h
theorem WDs_acc {l : List DOper} {fr : Fr} {aw : AW} {acc : List Stp} {s : Stp} {K : List Stp → Fr → AW → Prop} (h : WDs tab l fr aw (s :: acc) K) : WD tab l fr aw (fun st f a => K (acc.reverse ++ s :: st) f a) := by
  unfold WDs at h
  simpa using h
theorem WDs_val {d : DOper} {l : List DOper} {fr : Fr} {aw aw1 : AW} {acc : List Stp} {v : V} {K : List Stp → Fr → AW → Prop} (hw : wanted (hideL fr d.hide) d.op.guard = some true) (ha : aop d.op.op (hideL fr d.hide) aw = some (.val v, aw1))
    (h : WDs tab l (putO fr d.op.dst v) aw1 (mkStp fr d.hide v aw aw1 :: acc) K) : WDs tab (d :: l) fr aw acc K := by
  unfold WDs; rw [WD_cons, W1_eq, hw, ha]; exact WDs_acc h
theorem WDs_eff {d : DOper} {l : List DOper} {fr : Fr} {aw aw1 : AW} {acc : List Stp} {K : List Stp → Fr → AW → Prop} (hw : wanted (hideL fr d.hide) d.op.guard = some true) (ha : aop d.op.op (hideL fr d.hide) aw = some (.skip, aw1))
    (h : WDs tab l (putO fr d.op.dst .undef) aw1 (mkStp fr d.hide .undef aw aw1 :: acc) K) : WDs tab (d :: l) fr aw acc K := by
  unfold WDs; rw [WD_cons, W1_eq, hw, ha]; exact WDs_acc h
theorem WDs_pass {d : DOper} {l : List DOper} {fr : Fr} {aw : AW} {acc : List Stp} {K : List Stp → Fr → AW → Prop} (hw : wanted (hideL fr d.hide) d.op.guard = some false)
    (h : WDs tab l (putO fr d.op.dst .undef) aw (mkStp fr d.hide .undef aw aw :: acc) K) : WDs tab (d :: l) fr aw acc K := by
  unfold WDs; rw [WD_cons, W1_eq, hw]; exact WDs_acc h
theorem WDs_call {d : DOper} {l : List DOper} {fr : Fr} {aw aw1 : AW} {acc : List Stp} {f : Nat} {args : List V} {K : List Stp → Fr → AW → Prop} (hw : wanted (hideL fr d.hide) d.op.guard = some true) (ha : aop d.op.op (hideL fr d.hide) aw = some (.call f args, aw1))
    (h : WF tab f args aw1 (fun v a => WDs tab l (putO fr d.op.dst v) a (mkStp fr d.hide v aw a :: acc) K)) : WDs tab (d :: l) fr aw acc K := by
  unfold WDs; rw [WD_cons, W1_eq, hw, ha]
  exact .inl (h.mono fun v a h => WDs_acc h)
theorem WS_drawn {l : List DOper} {s : List SI} {fr : Fr} {aw : AW} {Q : Fr → AW → Prop} (h : WDs tab l fr aw [] (fun st f a => chkAll l st (pairs l) ∧ WS tab s f a Q)) : WS tab (.code (.drawn l) :: s) fr aw Q := by
  show WX tab (.drawn l) fr aw _
  rw [WX_drawn]
  obtain ⟨st, f, a, h1, h2, h3⟩ := h
  exact ⟨st, f, a, h1, drawnOK_of h1 h2, h3⟩
inductive DS where
  | on (l : List DOper) (fr : Fr) (aw : AW) (acc : List Stp)
def dRun0 : Nat → List DOper → Fr → AW → List Stp → DS
  | 0, l, fr, aw, acc => .on l fr aw acc
  | n + 1, [], fr, aw, acc => .on [] fr aw acc
  | n + 1, d :: l, fr, aw, acc => match wanted (hideL fr d.hide) d.op.guard with
    | some true => match aop d.op.op (hideL fr d.hide) aw with
      | some (.val v, aw1) => dRun0 n l (putO fr d.op.dst v) aw1 (mkStp fr d.hide v aw aw1 :: acc)
      | some (.skip, aw1) => dRun0 n l (putO fr d.op.dst .undef) aw1 (mkStp fr d.hide .undef aw aw1 :: acc)
      | _ => .on (d :: l) fr aw acc
    | some false => dRun0 n l (putO fr d.op.dst .undef) aw (mkStp fr d.hide .undef aw aw :: acc)
    | none => .on (d :: l) fr aw acc
theorem dRun0_ok {K : List Stp → Fr → AW → Prop} : ∀ (n : Nat) {l l' : List DOper} {fr fr' : Fr} {aw aw' : AW} {acc acc' : List Stp}, dRun0 n l fr aw acc = .on l' fr' aw' acc' → WDs tab l' fr' aw' acc' K → WDs tab l fr aw acc K
  | 0, l, l', fr, fr', aw, aw', acc, acc', h, hw => by cases h; exact hw
  | n + 1, [], l', fr, fr', aw, aw', acc, acc', h, hw => by cases h; exact hw
  | n + 1, d :: l, l', fr, fr', aw, aw', acc, acc', h, hw => by
    simp only [dRun0] at h
    split at h
    · rename_i h1
      split at h
      · rename_i h2; exact WDs_val h1 h2 (dRun0_ok n h hw)
      · rename_i h2; exact WDs_eff h1 h2 (dRun0_ok n h hw)
      · cases h; exact hw
    · rename_i h1; exact WDs_pass h1 (dRun0_ok n h hw)
    · cases h; exact hw
theorem dRunE_ex : ∃ f : Nat → List DOper → Fr → AW → List Stp → DS, f = dRun0 := ⟨_, rfl⟩
@[irreducible] noncomputable def dRunE : Nat → List DOper → Fr → AW → List Stp → DS := Classical.choose dRunE_ex
theorem dRunE_eq : dRunE = dRun0 := by unfold dRunE; exact Classical.choose_spec dRunE_ex
theorem WDs_run {K : List Stp → Fr → AW → Prop} (n : Nat) {l l' : List DOper} {fr fr' : Fr} {aw aw' : AW} {acc acc' : List Stp} (h : dRunE n l fr aw acc = .on l' fr' aw' acc') (hw : WDs tab l' fr' aw' acc' K) : WDs tab l fr aw acc K := by
  rw [dRunE_eq] at h; exact dRun0_ok n h hw
theorem dRunE_nil {n : Nat} {fr : Fr} {aw : AW} {acc : List Stp} : dRunE (n + 1) [] fr aw acc = .on [] fr aw acc := by rw [dRunE_eq]; rfl
theorem dRunE_cons {n : Nat} {d : DOper} {l : List DOper} {fr : Fr} {aw : AW} {acc : List Stp} : dRunE (n + 1) (d :: l) fr aw acc = match wanted (hideL fr d.hide) d.op.guard with
    | some true => match aop d.op.op (hideL fr d.hide) aw with
      | some (.val v, aw1) => dRunE n l (putO fr d.op.dst v) aw1 (mkStp fr d.hide v aw aw1 :: acc)
      | some (.skip, aw1) => dRunE n l (putO fr d.op.dst .undef) aw1 (mkStp fr d.hide .undef aw aw1 :: acc)
      | _ => .on (d :: l) fr aw acc
    | some false => dRunE n l (putO fr d.op.dst .undef) aw (mkStp fr d.hide .undef aw aw :: acc)
    | none => .on (d :: l) fr aw acc := by rw [dRunE_eq]; rfl
end
theorem over_cell : ∀ (l : List V) (i : Nat) (v : V), i < l.length → over l i [v] = some (l.set i v)
  | [], i, v, h => by simp at h
  | x :: l, 0, v, h => by simp [over]
  | x :: l, i + 1, v, h => by simp only [over, over_cell l i v (by simpa using h), List.set_cons_succ]
theorem store_cell {w : AW} {b i : Nat} {l : List V} {v : V} (hx : w.heap.get b = some (.cells l .own)) (hi : i < l.length) (hv : v.one = true) : w.store b i [v] = some (w.turn b (.cells (l.set i v) .own)) := by
  simp only [AW.store, hx, AW.alive, allOne, hv, over_cell l i v hi]
theorem cells_int {k : IntKind} {n : Int} : (V.int k n).cells = [.int k n] := rfl
theorem cells_bool {b : Bool} : (V.bool b).cells = [.bool b] := rfl
theorem cells_str {l : List Nat} : (V.str l).cells = [.str l] := rfl
theorem cells_agg {l : List V} : (V.agg l).cells = l := rfl
theorem cells_slice {b o n : Nat} {c : Cap} : (V.slice b o n c).cells = [.slice b o n c] := rfl
theorem cells_nilslice : V.nilslice.cells = [.nilslice] := rfl
theorem cells_ptr {b o : Nat} : (V.ptr b o).cells = [.ptr b o] := rfl
theorem cells_nilptr : V.nilptr.cells = [.nilptr] := rfl
theorem ne_ff : (false != false) = false := rfl
theorem ne_ft : (false != true) = true := rfl
theorem ne_tf : (true != false) = true := rfl
theorem ne_tt : (true != true) = false := rfl
attribute [go_sem] dRunE_nil dRunE_cons ne_ff ne_ft ne_tf ne_tt cells_int cells_bool cells_str cells_agg cells_slice cells_nilslice cells_ptr cells_nilptr
end Go.AE
set_option linter.unusedVariables false
set_option linter.unusedSectionVars false
set_option linter.unusedSimpArgs false
namespace Go.AE
variable [Globs]
end Go.AE
set_option linter.unusedVariables false
set_option linter.unusedSectionVars false
set_option linter.unusedSimpArgs false
namespace Go.AE
variable [Globs]
theorem resOne_nil : resOne [] = .tuple [] := rfl
attribute [go_sem] resOne_nil Nat.add_zero
theorem WS_loopJ {tab : Tab} {id : Nat} {b : ACode} {s : List SI} {Q : Fr → AW → Prop} (I : Nat → Fr → AW → Prop) (J : Fr → AW → Prop)
    (step : ∀ n f w, I n f w → (∀ n' f' w', n' < n → I n' f' w' → WS tab (.code (.loop b) :: .endB id :: s) f' w' Q) → (∀ s' f' w', J f' w' → popTo id s' = some s → WS tab (.code (.exit id) :: s') f' w' Q) → WS tab (.code b :: .code (.loop b) :: .endB id :: s) f w Q)
    (after : ∀ f w, J f w → WS tab s f w Q) (n : Nat) {fr : Fr} {aw : AW} (h : I n fr aw) : WS tab (.code (.loop b) :: .endB id :: s) fr aw Q :=
  WS_loop I (fun n f w hI ih => step n f w hI ih fun s' f' w' hJ hp => WS_exit hp (after f' w' hJ)) n h
def Al (T : Nat → Prop) (w : AW) (b : Nat) (sh : Share) : Prop :=
  sh = .own ∨ sh = .lax ∨ sh = .ro ∨ ∃ f F, sh = .fam f ∧ T f ∧ f < w.next ∧ w.fams.get f = some F ∧ w.alive b sh = true
theorem Al.alive {T : Nat → Prop} {w : AW} {b : Nat} {sh : Share} (h : Al T w b sh) : w.alive b sh = true := by
  rcases h with rfl | rfl | rfl | ⟨f, F, rfl, h1, h2, h3, h4⟩
  · rfl
  · rfl
  · rfl
  · exact h4
theorem Al.frm {T S : Nat → Prop} {w w' : AW} {b : Nat} {sh : Share} (h : Al T w b sh) (hf : Frm S w w') (hd : ∀ x, T x → ¬ S x) : Al T w' b sh := by
  rcases h with rfl | rfl | rfl | ⟨f, F, rfl, h1, h2, h3, h4⟩
  · exact .inl rfl
  · exact .inr (.inl rfl)
  · exact .inr (.inr (.inl rfl))
  · have e := hf.fams f h2 (hd f h1)
    refine .inr (.inr (.inr ⟨f, F, rfl, h1, Nat.lt_of_lt_of_le h2 hf.next, e.trans h3, ?_⟩))
    simp only [AW.alive, h3, e.trans h3] at h4 ⊢
    exact h4
theorem Al.mono {T T' : Nat → Prop} {w : AW} {b : Nat} {sh : Share} (h : Al T w b sh) (ht : ∀ x, T x → T' x) : Al T' w b sh := by
  rcases h with rfl | rfl | rfl | ⟨f, F, rfl, h1, h2⟩
  · exact .inl rfl
  · exact .inr (.inl rfl)
  · exact .inr (.inr (.inl rfl))
  · exact .inr (.inr (.inr ⟨f, F, rfl, ht f h1, h2⟩))
def CapFit (esz n : Nat) : Cap → Prop
  | .known k => n ≤ k
  | .upTo z => z = esz ∨ n = 0
inductive Rd (T : Nat → Prop) (w : AW) : V → Nat → Nat → List V → Prop
  | nil {esz : Nat} : Rd T w .nilslice esz 0 []
  | blk {b o n esz : Nat} {c : Cap} {l cs : List V} {sh : Share} (hT : T b) (hb : b < w.next) (hx : w.heap.get b = some (.cells l sh)) (ha : Al T w b sh) (hl : o + n * esz ≤ l.length) (hcs : cs = (l.drop o).take (n * esz)) (hc : CapFit esz n c) : Rd T w (.slice b o n c) esz n cs
theorem Rd.len {T : Nat → Prop} {w : AW} {v : V} {esz n : Nat} {cs : List V} (h : Rd T w v esz n cs) : cs.length = n * esz := by
  cases h with
  | nil => simp
  | blk hT hb hx ha hl hcs hc => rw [hcs, List.length_take, List.length_drop]; omega
theorem Rd.frm {T S : Nat → Prop} {w w' : AW} {v : V} {esz n : Nat} {cs : List V} (h : Rd T w v esz n cs) (hf : Frm S w w') (hd : ∀ x, T x → ¬ S x) : Rd T w' v esz n cs := by
  cases h with
  | nil => exact .nil
  | blk hT hb hx ha hl hcs hc => exact .blk hT (Nat.lt_of_lt_of_le hb hf.next) ((hf.heap _ hb (hd _ hT)).trans hx) (ha.frm hf hd) hl hcs hc
theorem Rd.mono {T T' : Nat → Prop} {w : AW} {v : V} {esz n : Nat} {cs : List V} (h : Rd T w v esz n cs) (ht : ∀ x, T x → T' x) : Rd T' w v esz n cs := by
  cases h with
  | nil => exact .nil
  | blk hT hb hx ha hl hcs hc => exact .blk (ht _ hT) hb hx (ha.mono ht) hl hcs hc
structure RdB (T : Nat → Prop) (w : AW) (b o n esz : Nat) (c : Cap) (cs : List V) : Prop where
  own : T b
  lt : b < w.next
  fit : CapFit esz n c
  load : ∀ i k, i + k ≤ n * esz → w.load b (o + i) k = some ((cs.drop i).take k)
  get : ∃ l sh, w.heap.get b = some (.cells l sh) ∧ w.alive b sh = true
theorem Rd.inv {T : Nat → Prop} {w : AW} {v : V} {esz n : Nat} {cs : List V} (h : Rd T w v esz n cs) : (v = .nilslice ∧ n = 0 ∧ cs = []) ∨ ∃ b o c, v = .slice b o n c ∧ RdB T w b o n esz c cs := by
  cases h with
  | nil => exact .inl ⟨rfl, rfl, rfl⟩
  | @blk b o _ _ c l _ sh hT hb hx ha hl hcs hc =>
    refine .inr ⟨b, o, c, rfl, ⟨hT, hb, hc, fun i k hik => ?_, l, sh, hx, ha.alive⟩⟩
    simp only [AW.load, hx, ha.alive]
    rw [takeN_some _ _ (by simp; omega), hcs]
    congr 1
    rw [List.drop_take, List.take_take, List.drop_drop, Nat.min_eq_left (by omega)]
theorem RdB.cell {T : Nat → Prop} {w : AW} {b o n esz : Nat} {c : Cap} {cs : List V} (h : RdB T w b o n esz c cs) {i : Nat} {x : V} (hi : i < n * esz) (hx : cs[i]? = some x) : w.load b (o + i) 1 = some [x] := by
  rw [h.load i 1 (by omega)]
  have hlt : i < cs.length := (List.getElem?_eq_some_iff.1 hx).1
  rw [List.drop_eq_getElem_cons hlt]
  rw [List.getElem?_eq_getElem hlt] at hx
  rw [Option.some.inj hx]; rfl
theorem flat_at {α : Type} {r : α → List V → Prop} {sz : Nat} (hsz : ∀ a xs, r a xs → xs.length = sz) : ∀ {l : List α} {xss : List (List V)}, All2 r l xss → ∀ {i : Nat} {a : α}, l[i]? = some a → ∃ xs, r a xs ∧ (xss.flatten.drop (i * sz)).take sz = xs
  | [], _, .nil, i, a, h => by simp at h
  | x :: l, y :: m, .cons h1 h2, 0, a, h => by
    simp at h; subst h
    refine ⟨y, h1, ?_⟩
    rw [Nat.zero_mul, List.drop_zero, List.flatten_cons, ← hsz _ _ h1, List.take_left']
    rfl
  | x :: l, y :: m, .cons h1 h2, i + 1, a, h => by
    obtain ⟨xs, q1, q2⟩ := flat_at hsz h2 (i := i) (a := a) (by simpa using h)
    refine ⟨xs, q1, ?_⟩
    have hy := hsz _ _ h1
    rw [List.flatten_cons, Nat.add_mul, Nat.one_mul, Nat.add_comm (i * sz), ← List.drop_drop, ← hy, List.drop_left' rfl, hy]
    exact q2
def RdL {α : Type} (r : AW → α → List V → Prop) (T : Nat → Prop) (w : AW) (v : V) (esz : Nat) (l : List α) : Prop := ∃ xss, Rd T w v esz l.length xss.flatten ∧ All2 (r w) l xss
theorem RdL.inv {α : Type} {r : AW → α → List V → Prop} {T : Nat → Prop} {w : AW} {v : V} {esz : Nat} {l : List α} (h : RdL r T w v esz l) (hsz : ∀ a xs, r w a xs → xs.length = esz) :
    (v = .nilslice ∧ l = []) ∨ ∃ b o c, v = .slice b o l.length c ∧ T b ∧ b < w.next ∧ CapFit esz l.length c ∧ ∀ i a, l[i]? = some a → ∃ xs, r w a xs ∧ ∀ j k, j + k ≤ esz → w.load b (o + i * esz + j) k = some ((xs.drop j).take k) := by
  obtain ⟨xss, h1, h2⟩ := h
  rcases h1.inv with ⟨q1, q2, q3⟩ | ⟨b, o, c, rfl, hB⟩
  · exact .inl ⟨q1, List.length_eq_zero_iff.1 q2⟩
  · refine .inr ⟨b, o, c, rfl, hB.own, hB.lt, hB.fit, fun i a hi => ?_⟩
    obtain ⟨xs, q1, q2⟩ := flat_at hsz h2 hi
    refine ⟨xs, q1, fun j k hjk => ?_⟩
    have hlt : i < l.length := (List.getElem?_eq_some_iff.1 hi).1
    have hle : (i + 1) * esz ≤ l.length * esz := Nat.mul_le_mul_right _ hlt
    rw [Nat.add_mul, Nat.one_mul] at hle
    rw [Nat.add_assoc, hB.load (i * esz + j) k (by omega), ← q2, List.drop_take, List.take_take, Nat.min_eq_left (by omega), List.drop_drop]
theorem RdL.frm {α : Type} {r : AW → α → List V → Prop} {T S : Nat → Prop} {w w' : AW} {v : V} {esz : Nat} {l : List α} (h : RdL r T w v esz l) (hr : ∀ a xs, r w a xs → r w' a xs) (hf : Frm S w w') (hd : ∀ x, T x → ¬ S x) : RdL r T w' v esz l := by
  obtain ⟨xss, h1, h2⟩ := h
  exact ⟨xss, h1.frm hf hd, h2.imp hr⟩
theorem RdL.mono {α : Type} {r r' : AW → α → List V → Prop} {T T' : Nat → Prop} {w : AW} {v : V} {esz : Nat} {l : List α} (h : RdL r T w v esz l) (hr : ∀ a xs, r w a xs → r' w a xs) (ht : ∀ x, T x → T' x) : RdL r' T' w v esz l := by
  obtain ⟨xss, h1, h2⟩ := h
  exact ⟨xss, h1.mono ht, h2.imp hr⟩
theorem Buf.rd {S : Nat → Prop} {w : AW} {v : V} {esz n : Nat} {cs : List V} (h : Buf S w v esz n cs) : Rd S w v esz n cs := by
  cases h with
  | nil => exact .nil
  | @blk b _ _ r _ rest sh hS hb hx hl hr he hn hs =>
    refine .blk hS hb hx ?_ (by rw [List.length_append, hl]; omega) (by rw [List.drop_zero, List.take_append_of_le_length (by omega), List.take_of_length_le (by omega)]) (.inl rfl)
    rcases hs with rfl | rfl | ⟨f, F, rfl, h1, h2, h3, h4, h6, h5⟩
    · exact .inl rfl
    · exact .inr (.inl rfl)
    · exact .inr (.inr (.inr ⟨f, F, rfl, h1, h2, h3, h5⟩))
theorem Own.rd {N : Nat} {w : AW} {v : V} {esz n : Nat} {cs : List V} (h : Own N w v esz n cs) : Rd (fun b => N ≤ b ∧ b < w.next) w v esz n cs := by
  cases h with
  | nil => exact .nil
  | @blk b _ _ _ sh hN hb hx hl he hn hs =>
    refine .blk ⟨hN, hb⟩ hb hx ?_ (by omega) (by rw [List.drop_zero, List.take_of_length_le (by omega)]) (.inl rfl)
    rcases hs with rfl | rfl | ⟨f, F, rfl, h1, h2, h3, h4, h6, h5⟩
    · exact .inl rfl
    · exact .inr (.inl rfl)
    · exact .inr (.inr (.inr ⟨f, F, rfl, ⟨h1, h2⟩, h2, h3, h5⟩))
theorem Rd.elems {T : Nat → Prop} {w : AW} {v : V} {esz n : Nat} {cs : List V} (h : Rd T w v esz n cs) : w.elems esz v = some (n, cs) := by
  have hlen := h.len
  rcases h.inv with ⟨rfl, rfl, rfl⟩ | ⟨b, o, c, rfl, hB⟩
  · rfl
  · cases n with
    | zero =>
      have : cs = [] := List.length_eq_zero_iff.1 (by omega)
      subst this; rfl
    | succ n =>
      have := hB.load 0 ((n + 1) * esz) (by omega)
      rw [Nat.add_zero, List.drop_zero, List.take_of_length_le (by omega)] at this
      simp only [AW.elems, this]
theorem Rd.lenV {T : Nat → Prop} {w : AW} {v : V} {esz n : Nat} {cs : List V} (h : Rd T w v esz n cs) : lenV v = some n := by cases h <;> rfl
theorem Buf.lenV {S : Nat → Prop} {w : AW} {v : V} {esz n : Nat} {cs : List V} (h : Buf S w v esz n cs) : lenV v = some n := by cases h <;> rfl
structure CB (w : AW) (b : Nat) (l : List V) : Prop where
  lt : b < w.next
  get : w.heap.get b = some (.cells l .own)
theorem CB.frm {S : Nat → Prop} {w w' : AW} {b : Nat} {l : List V} (h : CB w b l) (hf : Frm S w w') (hn : ¬ S b) : CB w' b l := ⟨Nat.lt_of_lt_of_le h.lt hf.next, (hf.heap b h.lt hn).trans h.get⟩
theorem CB.load {w : AW} {b : Nat} {l : List V} (h : CB w b l) (o n : Nat) : w.load b o n = takeN n (l.drop o) := by simp only [AW.load, h.get]; rfl
theorem CB.all {w : AW} {b n : Nat} {l : List V} (h : CB w b l) (hn : l.length = n) : w.load b 0 n = some l := by rw [h.load, List.drop_zero]; exact takeN_all _ _ hn
def AW.put (w : AW) (b : Nat) (l : List V) : AW := w.turn b (.cells l .own)
theorem CB.set {w : AW} {b i : Nat} {l : List V} {v : V} (h : CB w b l) (hi : i < l.length) (hv : v.one = true) : w.store b i [v] = some (w.put b (l.set i v)) := store_cell h.get hi hv
theorem CB.setAll {w : AW} {b : Nat} {l vs : List V} (h : CB w b l) (hl : l.length = vs.length) (h1 : allOne vs = true) : w.store b 0 vs = some (w.put b vs) := by
  have : over l 0 vs = some vs := by
    have := over_mid [] l [] vs hl.symm
    simpa using this
  exact store_shr h.get (.inl rfl : Shr (fun _ => True) w b .own) h1 this
theorem put_cb {w : AW} {b : Nat} {l : List V} (h : b < w.next) : CB (w.put b l) b l := ⟨h, T.get_put_same⟩
theorem put_frm {w : AW} {b : Nat} {l : List V} : Frm (fun x => x = b) w (w.put b l) := turn_frm (sh := .own) rfl (.inl rfl)
theorem fresh_cb (w : AW) (l : List V) : CB (w.fresh l) w.next l := ⟨Nat.lt_succ_self _, T.get_put_same⟩
theorem fresh_frm {S : Nat → Prop} (w : AW) (l : List V) : Frm S w (w.fresh l) := Frm.new w _
theorem boxed (w : AW) {zs vs : List V} (hl : zs.length = vs.length) (h1 : allOne vs = true) : ∃ w2, (w.fresh zs).store w.next 0 vs = some w2 ∧ CB w2 w.next vs ∧ Frm (fun _ => False) w w2 ∧ w2.next = w.next + 1 := by
  refine ⟨_, (fresh_cb w zs).setAll hl h1, put_cb (Nat.lt_succ_self _), ?_, rfl⟩
  refine (fresh_frm (S := fun _ => False) w zs).trans (T := fun b => b = w.next) put_frm (fun _ _ h => h) ?_
  rintro y hy rfl; omega
theorem Frm.out {S : Nat → Prop} {w w1 w2 : AW} {b : Nat} {l : List V} (h : Frm S w w1) (hb : w.next ≤ b) (h2 : w2 = w1.put b l) : Frm S w w2 := by
  subst h2
  refine h.trans (T := fun x => x = b) put_frm (fun _ _ h => h) ?_
  rintro x hx rfl; omega
theorem Frm.tr {S : Nat → Prop} {a b c : AW} (h : Frm S a b) (h' : Frm S b c) : Frm S a c := h.trans h' (fun _ _ h => h) fun _ _ h => h
theorem Frm.no {S : Nat → Prop} {a b : AW} (h : Frm (fun _ => False) a b) : Frm S a b := h.mono fun _ _ h => h.elim
theorem All2.cells {α : Type} {r : α → List V → Prop} {l : List α} {xss : List (List V)} {a : α} {xs : List V} (h : All2 r l xss) (hx : r a xs) : All2 r (l ++ [a]) (xss ++ [xs]) ∧ (xss ++ [xs]).flatten = xss.flatten ++ xs := ⟨h.snoc hx, by simp⟩
end Go.AE
set_option linter.unusedVariables false
set_option maxRecDepth 10000
set_option linter.unusedSimpArgs false
namespace Go.Proofs.YtpbdojjfokelaaaDoor
open Go.AE Delphi
variable {tab : Tab}
structure PSt (w : AW) (bp : Nat) (wv : V) (k e : Nat) : Prop where
  lt : bp < w.next
  get : w.heap.get bp = some (.cells [wv, .int .i64 (Int.ofNat k), .int .i64 (Int.ofNat e)] .own)
theorem PSt.frm {S : Nat → Prop} {w w' : AW} {bp : Nat} {wv : V} {k e : Nat} (h : PSt w bp wv k e) (hf : Frm S w w') (hn : ¬ S bp) : PSt w' bp wv k e := ⟨Nat.lt_of_lt_of_le h.lt hf.next, (hf.heap bp h.lt hn).trans h.get⟩
theorem PSt.l0 {w : AW} {bp k e : Nat} {wv : V} (h : PSt w bp wv k e) : w.load bp 0 1 = some [wv] := by simp only [AW.load, h.get]; rfl
theorem PSt.l1 {w : AW} {bp k e : Nat} {wv : V} (h : PSt w bp wv k e) : w.load bp 1 1 = some [.int .i64 (Int.ofNat k)] := by simp only [AW.load, h.get]; rfl
theorem PSt.l2 {w : AW} {bp k e : Nat} {wv : V} (h : PSt w bp wv k e) : w.load bp 2 1 = some [.int .i64 (Int.ofNat e)] := by simp only [AW.load, h.get]; rfl
def PSt.mk' (w : AW) (bp : Nat) (wv : V) (k e : Nat) : AW := w.turn bp (.cells [wv, .int .i64 (Int.ofNat k), .int .i64 (Int.ofNat e)] .own)
theorem PSt.s1 {w : AW} {bp k e : Nat} {wv : V} (h : PSt w bp wv k e) (k' : Nat) : w.store bp 1 [.int .i64 (Int.ofNat k')] = some (PSt.mk' w bp wv k' e) := by
  have := store_cell (i := 1) (v := .int .i64 (Int.ofNat k')) h.get (by simp) rfl
  exact this
theorem PSt.made {w : AW} {bp k e : Nat} {wv : V} (h : bp < w.next) : PSt (PSt.mk' w bp wv k e) bp wv k e := ⟨h, AE.T.get_put_same⟩
theorem PSt.made_frm {w : AW} {bp k e : Nat} {wv : V} : Frm (fun b => b = bp) w (PSt.mk' w bp wv k e) := turn_frm (sh := .own) rfl (.inl rfl)
structure Wds (Tw : Nat → Prop) (w : AW) (bp : Nat) (wv : V) (ws : List Wd) : Prop where
  rd : Rd Tw w wv 3 ws.length (wdsCells ws)
  no : ¬ Tw bp
  len : ws.length ≤ 4000
theorem Wds.frm {Tw S : Nat → Prop} {w w' : AW} {bp : Nat} {wv : V} {ws : List Wd} (h : Wds Tw w bp wv ws) (hf : Frm S w w') (hd : ∀ x, Tw x → ¬ S x) : Wds Tw w' bp wv ws := ⟨h.rd.frm hf hd, h.no, h.len⟩
theorem wdCells_len (w : Wd) : (wdCells w).length = 3 := rfl
theorem Wds.at {Tw : Nat → Prop} {w : AW} {bp : Nat} {wv : V} {ws : List Wd} (h : Wds Tw w bp wv ws) : (wv = .nilslice ∧ ws = []) ∨ ∃ b o c, wv = .slice b o ws.length c ∧ b ≠ bp ∧ b < w.next ∧
    ∀ i x, ws[i]? = some x → w.load b (o + i * 3) 1 = some [.int .i64 (Int.ofNat x.kind)] ∧ w.load b (o + i * 3 + 1) 1 = some [.str x.text] ∧ w.load b (o + i * 3) 3 = some (wdCells x) := by
  rcases h.rd.inv with ⟨q1, q2, _⟩ | ⟨b, o, c, rfl, hB⟩
  · exact .inl ⟨q1, List.length_eq_zero_iff.1 q2⟩
  · refine .inr ⟨b, o, c, rfl, fun he => h.no (he ▸ hB.own), hB.lt, fun i x hx => ?_⟩
    have hlt : i < ws.length := (List.getElem?_eq_some_iff.1 hx).1
    have part : ∀ j k, j + k ≤ 3 → w.load b (o + i * 3 + j) k = some (((wdCells x).drop j).take k) := by
      intro j k hjk
      have := hB.load (i * 3 + j) k (by omega)
      rw [Nat.add_assoc, this]
      have h2 := flat_part wdCells_len (i := i) (j := j) (k := k) hx hjk
      rw [Nat.zero_add] at h2
      exact congrArg some h2
    exact ⟨part 0 1 (by omega), part 1 1 (by omega), part 0 3 (by omega)⟩
theorem bad_ok (C : Codes tab) {bp k e x : Nat} {wv : V} {aw : AW} {K : V → AW → Prop} (hp : PSt aw bp wv k e) (h : ∀ w, PSt w bp wv k (rBad e x) → Frm (fun b => b = bp) aw w → w.next = aw.next → K (.tuple []) w) : WF tab n_ref8_P_bad [.ptr bp 0, .int .i64 (Int.ofNat x)] aw K := by
  refine WF_of C.c_ref8_P_bad rfl ?_
  have hg := hp.get
  by_cases he : e = 0
  · subst he
    refine WS_run 1000 (by simp only [go_sem, eRun_exit, Nat.reduceAdd, Nat.reduceLT, Nat.reduceEqDiff, reduceIte, reduceCtorEq, Nat.reduceLeDiff, AW.load, AW.store, AW.alive, AW.fresh, AW.new, AW.turn, AW.kill, takeN, over, allOne, V.one, V.cells, partV, fillV, evParts, List.drop_zero, List.drop_succ_cons, List.length_cons, List.length_nil, Nat.add_eq_left, Nat.left_eq_add, Nat.zero_add, Nat.one_ne_zero, Nat.add_right_cancel_iff, Nat.add_left_cancel_iff, Nat.succ_ne_self, List.head?_cons, if_true, if_false, k_ref8_P_bad, hg]; rfl) ?_
    refine WS_nil ⟨_, by simp only [go_sem, eRun_exit, Nat.reduceAdd, Nat.reduceLT, Nat.reduceEqDiff, reduceIte, reduceCtorEq, Nat.reduceLeDiff, k_ref8_P_bad]; rfl, ?_⟩
    exact h _ ⟨hp.lt, AE.T.get_put_same⟩ (turn_frm (sh := .own) rfl (.inl rfl)) rfl
  · have : rBad e x = e := if_neg he
    rw [this] at h
    refine WS_run 1000 (by simp only [go_sem, eRun_exit, Nat.reduceAdd, Nat.reduceLT, Nat.reduceEqDiff, reduceIte, reduceCtorEq, Nat.reduceLeDiff, AW.load, AW.store, AW.alive, AW.fresh, AW.new, AW.turn, AW.kill, takeN, over, allOne, V.one, V.cells, partV, fillV, evParts, List.drop_zero, List.drop_succ_cons, List.length_cons, List.length_nil, Nat.add_eq_left, Nat.left_eq_add, Nat.zero_add, Nat.one_ne_zero, Nat.add_right_cancel_iff, Nat.add_left_cancel_iff, Nat.succ_ne_self, List.head?_cons, if_true, if_false, k_ref8_P_bad, hg, he]; rfl) ?_
    refine WS_nil ⟨_, by simp only [go_sem, eRun_exit, Nat.reduceAdd, Nat.reduceLT, Nat.reduceEqDiff, reduceIte, reduceCtorEq, Nat.reduceLeDiff, k_ref8_P_bad]; rfl, ?_⟩
    exact h _ hp (Frm.refl _) rfl
theorem psign_ok (C : Codes tab) {Tw : Nat → Prop} {bp k e : Nat} {wv : V} {ws : List Wd} {s : List Nat} {aw : AW} {K : V → AW → Prop} (hp : PSt aw bp wv k e) (hw : Wds Tw aw bp wv ws) (h : K (.bool (rSign ws k s)) aw) : WF tab n_ref8_P_sign [.ptr bp 0, .str s] aw K := by
  refine WF_of C.c_ref8_P_sign rfl ?_
  have hg := hp.get
  have l0 : aw.load bp 0 1 = some [wv] := by simp only [AW.load, hg]; rfl
  have l1 : aw.load bp 1 1 = some [.int .i64 (Int.ofNat k)] := by simp only [AW.load, hg]; rfl
  rcases hw.at with ⟨rfl, rfl⟩ | ⟨b, o, c, rfl, hne, hlt, hat⟩
  · have e1 : ¬ k < 0 := by omega
    refine WS_run 1000 (by simp only [go_sem, eRun_exit, Nat.reduceAdd, Nat.reduceLT, Nat.reduceEqDiff, reduceIte, reduceCtorEq, Nat.reduceLeDiff, k_ref8_P_sign, l0, l1, e1]; rfl) ?_
    refine WS_ret ⟨_, by simp only [go_sem, eRun_exit, Nat.reduceAdd, Nat.reduceLT, Nat.reduceEqDiff, reduceIte, reduceCtorEq, Nat.reduceLeDiff, k_ref8_P_sign]; rfl, ?_⟩
    exact h
  · by_cases hk : k < ws.length
    · have hx : ws[k]? = some ws[k] := List.getElem?_eq_getElem hk
      obtain ⟨a1, a2, _⟩ := hat k _ hx
      unfold rSign at h
      rw [hx] at h
      simp only at h
      by_cases h4 : ws[k].kind = 4
      · have hb : decide (ws[k].text = s) = eqL ws[k].text s := by
          by_cases hh : ws[k].text = s
          · rw [decide_eq_true hh]; exact (eqL_iff.2 hh).symm
          · rw [decide_eq_false hh]
            cases hc : eqL ws[k].text s with
            | false => rfl
            | true => exact absurd (eqL_iff.1 hc) hh
        rw [decide_eq_true h4, Bool.true_and, hb] at h
        refine WS_run 1000 (by simp only [go_sem, eRun_exit, Nat.reduceAdd, Nat.reduceLT, Nat.reduceEqDiff, reduceIte, reduceCtorEq, Nat.reduceLeDiff, k_ref8_P_sign, l0, l1, hk, a1, a2, h4, strS]; rfl) ?_
        refine WS_ret ⟨_, by simp only [go_sem, eRun_exit, Nat.reduceAdd, Nat.reduceLT, Nat.reduceEqDiff, reduceIte, reduceCtorEq, Nat.reduceLeDiff, k_ref8_P_sign]; rfl, ?_⟩
        exact h
      · rw [decide_eq_false h4, Bool.false_and] at h
        refine WS_run 1000 (by simp only [go_sem, eRun_exit, Nat.reduceAdd, Nat.reduceLT, Nat.reduceEqDiff, reduceIte, reduceCtorEq, Nat.reduceLeDiff, k_ref8_P_sign, l0, l1, hk, a1, h4]; rfl) ?_
        refine WS_ret ⟨_, by simp only [go_sem, eRun_exit, Nat.reduceAdd, Nat.reduceLT, Nat.reduceEqDiff, reduceIte, reduceCtorEq, Nat.reduceLeDiff, k_ref8_P_sign]; rfl, ?_⟩
        exact h
    · have : rSign ws k s = false := by unfold rSign; rw [List.getElem?_eq_none (by omega)]
      rw [this] at h
      refine WS_run 1000 (by simp only [go_sem, eRun_exit, Nat.reduceAdd, Nat.reduceLT, Nat.reduceEqDiff, reduceIte, reduceCtorEq, Nat.reduceLeDiff, k_ref8_P_sign, l0, l1, hk]; rfl) ?_
      refine WS_ret ⟨_, by simp only [go_sem, eRun_exit, Nat.reduceAdd, Nat.reduceLT, Nat.reduceEqDiff, reduceIte, reduceCtorEq, Nat.reduceLeDiff, k_ref8_P_sign]; rfl, ?_⟩
      exact h
theorem peat_ok (C : Codes tab) {Tw : Nat → Prop} {bp k e : Nat} {wv : V} {ws : List Wd} {s : List Nat} {aw : AW} {K : V → AW → Prop} (hp : PSt aw bp wv k e) (hw : Wds Tw aw bp wv ws) (hk : k ≤ 4000)
    (h : ∀ w, PSt w bp wv (rEat ws s k e).1 (rEat ws s k e).2 → Frm (fun b => b = bp) aw w → w.next = aw.next → K (.tuple []) w) : WF tab n_ref8_P_eat [.ptr bp 0, .str s] aw K := by
  refine WF_of C.c_ref8_P_eat rfl ?_
  have hg := hp.get
  have l2 : aw.load bp 2 1 = some [.int .i64 (Int.ofNat e)] := by simp only [AW.load, hg]; rfl
  have l1 : aw.load bp 1 1 = some [.int .i64 (Int.ofNat k)] := by simp only [AW.load, hg]; rfl
  unfold rEat at h
  by_cases he : e = 0
  · subst he
    rw [if_pos rfl] at h
    refine WS_run 1000 (by simp only [go_sem, eRun_exit, Nat.reduceAdd, Nat.reduceLT, Nat.reduceEqDiff, reduceIte, reduceCtorEq, Nat.reduceLeDiff, k_ref8_P_eat, l2]; rfl) ?_
    refine WS_call (by simp only [go_sem, eRun_exit, Nat.reduceAdd, Nat.reduceLT, Nat.reduceEqDiff, reduceIte, reduceCtorEq, Nat.reduceLeDiff]) (by simp only [go_sem, eRun_exit, Nat.reduceAdd, Nat.reduceLT, Nat.reduceEqDiff, reduceIte, reduceCtorEq, Nat.reduceLeDiff]; rfl) ?_
    refine psign_ok C hp hw ?_
    cases hs : rSign ws k s with
    | true =>
      rw [hs, if_pos rfl] at h
      have hwr : IntKind.wrap .i64 (Int.ofNat k + 1) = Int.ofNat (k + 1) := wrap_succ (by omega)
      refine WS_run 1000 (by simp only [go_sem, eRun_exit, Nat.reduceAdd, Nat.reduceLT, Nat.reduceEqDiff, reduceIte, reduceCtorEq, Nat.reduceLeDiff, AW.load, AW.store, AW.alive, AW.fresh, AW.new, AW.turn, AW.kill, takeN, over, allOne, V.one, V.cells, partV, fillV, evParts, List.drop_zero, List.drop_succ_cons, List.length_cons, List.length_nil, Nat.add_eq_left, Nat.left_eq_add, Nat.zero_add, Nat.one_ne_zero, Nat.add_right_cancel_iff, Nat.add_left_cancel_iff, Nat.succ_ne_self, List.head?_cons, if_true, if_false, hg, hwr]; rfl) ?_
      refine WS_nil ⟨_, by simp only [go_sem, eRun_exit, Nat.reduceAdd, Nat.reduceLT, Nat.reduceEqDiff, reduceIte, reduceCtorEq, Nat.reduceLeDiff, k_ref8_P_eat]; rfl, ?_⟩
      exact h _ ⟨hp.lt, AE.T.get_put_same⟩ (turn_frm (sh := .own) rfl (.inl rfl)) rfl
    | false =>
      rw [hs, if_neg (by simp)] at h
      refine WS_run 1000 (by simp only [go_sem, eRun_exit, Nat.reduceAdd, Nat.reduceLT, Nat.reduceEqDiff, reduceIte, reduceCtorEq, Nat.reduceLeDiff]; rfl) ?_
      refine WS_call (by simp only [go_sem, eRun_exit, Nat.reduceAdd, Nat.reduceLT, Nat.reduceEqDiff, reduceIte, reduceCtorEq, Nat.reduceLeDiff]) (by simp only [go_sem, eRun_exit, Nat.reduceAdd, Nat.reduceLT, Nat.reduceEqDiff, reduceIte, reduceCtorEq, Nat.reduceLeDiff]; rfl) ?_
      refine bad_ok C (x := 4) hp fun w q1 q2 q3 => ?_
      refine WS_run 1000 (by simp only [go_sem, eRun_exit, Nat.reduceAdd, Nat.reduceLT, Nat.reduceEqDiff, reduceIte, reduceCtorEq, Nat.reduceLeDiff]; rfl) ?_
      refine WS_ret ⟨_, by simp only [go_sem, eRun_exit, Nat.reduceAdd, Nat.reduceLT, Nat.reduceEqDiff, reduceIte, reduceCtorEq, Nat.reduceLeDiff, k_ref8_P_eat]; rfl, ?_⟩
      exact h w q1 q2 q3
  · rw [if_neg he] at h
    refine WS_run 1000 (by simp only [go_sem, eRun_exit, Nat.reduceAdd, Nat.reduceLT, Nat.reduceEqDiff, reduceIte, reduceCtorEq, Nat.reduceLeDiff, k_ref8_P_eat, l2, he]; rfl) ?_
    refine WS_ret ⟨_, by simp only [go_sem, eRun_exit, Nat.reduceAdd, Nat.reduceLT, Nat.reduceEqDiff, reduceIte, reduceCtorEq, Nat.reduceLeDiff, k_ref8_P_eat]; rfl, ?_⟩
    exact h _ hp (Frm.refl _) rfl
theorem pcompare_ok (C : Codes tab) {s : List Nat} {aw : AW} {K : V → AW → Prop} (h : K (.int .i64 (Int.ofNat (rCompare s))) aw) : WF tab n_ref8_compare [.str s] aw K := by
  refine WF_of C.c_ref8_compare rfl ?_
  have eqd : ∀ g : List Nat, eqL s g = decide (s = g) := fun g => by
    by_cases hh : s = g
    · rw [decide_eq_true hh]; exact eqL_iff.2 hh
    · rw [decide_eq_false hh]
      cases hc : eqL s g with
      | false => rfl
      | true => exact absurd (eqL_iff.1 hc) hh
  unfold rCompare at h
  by_cases h1 : s = [61]
  · rw [if_pos h1] at h
    refine WS_run 1000 (by simp only [go_sem, eRun_exit, Nat.reduceAdd, Nat.reduceLT, Nat.reduceEqDiff, reduceIte, reduceCtorEq, Nat.reduceLeDiff, k_ref8_compare, k_ref8_compare_p1, strS, eqd, h1]; rfl) ?_
    refine WS_ret ⟨_, by simp only [go_sem, eRun_exit, Nat.reduceAdd, Nat.reduceLT, Nat.reduceEqDiff, reduceIte, reduceCtorEq, Nat.reduceLeDiff, k_ref8_compare]; rfl, ?_⟩
    exact h
  rw [if_neg h1] at h
  by_cases h2 : s = [33, 61]
  · rw [if_pos h2] at h
    refine WS_run 1000 (by simp only [go_sem, eRun_exit, Nat.reduceAdd, Nat.reduceLT, Nat.reduceEqDiff, reduceIte, reduceCtorEq, Nat.reduceLeDiff, k_ref8_compare, k_ref8_compare_p1, strS, eqd, h1, h2]; rfl) ?_
    refine WS_ret ⟨_, by simp only [go_sem, eRun_exit, Nat.reduceAdd, Nat.reduceLT, Nat.reduceEqDiff, reduceIte, reduceCtorEq, Nat.reduceLeDiff, k_ref8_compare]; rfl, ?_⟩
    exact h
  rw [if_neg h2] at h
  by_cases h3 : s = [60]
  · rw [if_pos h3] at h
    refine WS_run 1000 (by simp only [go_sem, eRun_exit, Nat.reduceAdd, Nat.reduceLT, Nat.reduceEqDiff, reduceIte, reduceCtorEq, Nat.reduceLeDiff, k_ref8_compare, k_ref8_compare_p1, k_ref8_compare_p0, strS, eqd, h1, h2, h3]; rfl) ?_
    refine WS_ret ⟨_, by simp only [go_sem, eRun_exit, Nat.reduceAdd, Nat.reduceLT, Nat.reduceEqDiff, reduceIte, reduceCtorEq, Nat.reduceLeDiff, k_ref8_compare]; rfl, ?_⟩
    exact h
  rw [if_neg h3] at h
  by_cases h4 : s = [60, 61]
  · rw [if_pos h4] at h
    refine WS_run 1000 (by simp only [go_sem, eRun_exit, Nat.reduceAdd, Nat.reduceLT, Nat.reduceEqDiff, reduceIte, reduceCtorEq, Nat.reduceLeDiff, k_ref8_compare, k_ref8_compare_p1, k_ref8_compare_p0, strS, eqd, h1, h2, h3, h4]; rfl) ?_
    refine WS_ret ⟨_, by simp only [go_sem, eRun_exit, Nat.reduceAdd, Nat.reduceLT, Nat.reduceEqDiff, reduceIte, reduceCtorEq, Nat.reduceLeDiff, k_ref8_compare]; rfl, ?_⟩
    exact h
  · rw [if_neg h4] at h
    refine WS_run 1000 (by simp only [go_sem, eRun_exit, Nat.reduceAdd, Nat.reduceLT, Nat.reduceEqDiff, reduceIte, reduceCtorEq, Nat.reduceLeDiff, k_ref8_compare, k_ref8_compare_p1, k_ref8_compare_p0, strS, eqd, h1, h2, h3, h4]; rfl) ?_
    refine WS_ret ⟨_, by simp only [go_sem, eRun_exit, Nat.reduceAdd, Nat.reduceLT, Nat.reduceEqDiff, reduceIte, reduceCtorEq, Nat.reduceLeDiff, k_ref8_compare]; rfl, ?_⟩
    exact h
end Go.Proofs.YtpbdojjfokelaaaDoor
set_option linter.unusedVariables false
set_option maxRecDepth 10000
set_option linter.unusedSimpArgs false
namespace Go.Proofs.YtpbdojjfokelaaaDoor
open Go.AE Delphi
variable {tab : Tab}
def tmC (t : Tm) : List V := [.int .i64 (Int.ofNat t.kind), .str t.name, .int .i64 t.num]
def WOk (w : Wd) : Prop := w.text ≠ [] ∧ (w.kind ≠ 4 → w.text.length ≤ 16) ∧ 1 ≤ w.kind ∧ w.kind ≤ 4 ∧ ∀ c ∈ w.text, c < 256
theorem res_store {w : AW} {b : Nat} {l vs : List V} (hx : w.heap.get b = some (.cells l .own)) (hl : l.length = vs.length) (h1 : allOne vs = true) : w.store b 0 vs = some (w.turn b (.cells vs .own)) := by
  have : over l 0 vs = some vs := by
    have := over_mid [] l [] vs hl.symm
    simpa using this
  exact store_shr hx (.inl rfl : Shr (fun _ => True) w b .own) h1 this
theorem res_load {w : AW} {b : Nat} {vs : List V} {n : Nat} (h : vs.length = n) : (w.turn b (.cells vs .own)).load b 0 n = some vs := by
  have : (w.turn b (.cells vs .own)).heap.get b = some (.cells vs .own) := AE.T.get_put_same
  simp only [AW.load, this, AW.alive, List.drop_zero]
  exact takeN_all _ _ h
theorem out_frm {aw w : AW} {bp : Nat} {zs vs : List V} (h : Frm (fun b => b = bp) (aw.fresh zs) w) : Frm (fun b => b = bp) aw (w.turn aw.next (.cells vs .own)) := by
  refine ((Frm.new (S := fun _ => False) aw (.cells zs .own)).trans h (fun _ _ h => h.elim) (fun _ _ h => h)).trans (T := fun b => b = aw.next) (turn_frm rfl (.inl rfl)) (fun _ _ h => h) ?_
  rintro x hx rfl; omega
theorem fresh_get {aw : AW} {l : List V} : (aw.fresh l).heap.get aw.next = some (.cells l .own) := AE.T.get_put_same
theorem u8sub {c : Nat} (h : c < 256) : IntKind.wrap .u8 (Int.ofNat c - 48) = Int.ofNat ((c + 208) % 256) := by
  have e : Int.ofNat ((c + 208) % 256) = (((c : Int) + 208) % 256) := by simp
  rw [e]
  show IntKind.wrap .u8 ((c : Int) - 48) = _
  unfold IntKind.wrap
  simp only [IntKind.signed, IntKind.bits, Bool.false_and, Bool.false_eq_true, if_false]
  omega
theorem i64_small {n : Nat} (h : n ≤ 9223372036854775807) : IntKind.wrap .i64 (Int.ofNat n) = Int.ofNat n := wrap_id (by show (-9223372036854775808 : Int) ≤ (n : Int); omega) (by show (n : Int) ≤ 9223372036854775807; omega)
def NumI (n0 n1 bp : Nat) (s : List Nat) (aw : AW) (q : Nat) (f : Fr) (w : AW) : Prop :=
  ∃ i m, f.get 0 = some (.ptr bp 0) ∧ f.get 2 = some (.ptr n0 0) ∧ f.get 3 = some (.ptr n1 0) ∧ f.get 4 = some (.int .i64 (Int.ofNat m)) ∧ f.get 5 = some (.int .i64 (Int.ofNat i)) ∧ w = aw ∧ i ≤ s.length ∧ rNum s = (s.drop i).foldl rDig m ∧ m + 29 ≤ 29 * 10 ^ i ∧ q = s.length - i
theorem pterm_ok (C : Codes tab) {Tw : Nat → Prop} {bp k e : Nat} {wv : V} {ws : List Wd} {aw : AW} {K : V → AW → Prop} (hp : PSt aw bp wv k e) (hw : Wds Tw aw bp wv ws) (hok : ∀ x ∈ ws, WOk x) (hT : ∀ x, Tw x → x < aw.next)
    (h : ∀ w, PSt w bp wv (rTerm ws k e).2.1 (rTerm ws k e).2.2 → Frm (fun b => b = bp) aw w → K (.agg (tmC (rTerm ws k e).1)) w) : WF tab n_ref8_P_term [.ptr bp 0] aw K := by
  refine WF_of C.c_ref8_P_term rfl ?_
  have hlt := hp.lt
  have hne : ¬ bp = aw.next := by omega
  obtain ⟨zs, hzs⟩ : ∃ zs, zs = [V.int .i64 0, V.str [], V.int .i64 0] := ⟨_, rfl⟩
  have hp1 := hp.frm (fresh_frm (S := fun _ => False) aw zs) fun h => h
  have hw1 := hw.frm (fresh_frm (S := fun _ => False) aw zs) fun _ _ h => h
  have hg := hp1.get
  have l0 : (aw.fresh zs).load bp 0 1 = some [wv] := by simp only [AW.load, hg]; rfl
  have l1 : (aw.fresh zs).load bp 1 1 = some [.int .i64 (Int.ofNat k)] := by simp only [AW.load, hg]; rfl
  have l2 : (aw.fresh zs).load bp 2 1 = some [.int .i64 (Int.ofNat e)] := by simp only [AW.load, hg]; rfl
  have hzl : zs.length = 3 := by rw [hzs]; rfl
  have hov : ∀ v : V, over zs 0 [v] = some [v, V.str [], V.int .i64 0] := fun v => by rw [hzs]; rfl
  -- the end of what is no term
  have fin : ∀ (w w' : AW) (k' : Nat), PSt w bp wv k' 4 → Frm (fun b => b = bp) (aw.fresh zs) w → (rTerm ws k e) = (Tm.zero, k', 4) → w' = w.turn aw.next (.cells zs .own) → K (.agg zs) w' := by
    intro w w' k' h1 h2 h3 h4
    subst h4
    rw [h3] at h
    have := h (w.turn aw.next (.cells zs .own)) (h1.frm (S := fun b => b = aw.next) (turn_frm rfl (.inl rfl)) (fun h => hne h)) (out_frm h2)
    rw [hzs] at this ⊢; exact this
  -- no word
  have no : ∀ {s : List SI} {fr : Fr}, rTerm ws k e = (Tm.zero, k, rBad e 4) → fr.get 0 = some (.ptr bp 0) → fr.get 2 = some (.ptr aw.next 0) → WS tab (.code k_ref8_P_term_p0 :: s) fr (aw.fresh zs) (fun fr' aw' => ∃ vs, resV fr' aw' k_ref8_P_term.results = some vs ∧ K (resOne vs) aw') := by
    intro s fr hr f0 f2
    refine WS_run 1000 (by simp only [go_sem, eRun_exit, Nat.reduceAdd, Nat.reduceLT, Nat.reduceEqDiff, reduceIte, reduceCtorEq, Nat.reduceLeDiff, k_ref8_P_term_p0, f0, f2]; rfl) ?_
    refine WS_call (by simp only [go_sem, eRun_exit, Nat.reduceAdd, Nat.reduceLT, Nat.reduceEqDiff, reduceIte, reduceCtorEq, Nat.reduceLeDiff]) (by simp only [go_sem, eRun_exit, Nat.reduceAdd, Nat.reduceLT, Nat.reduceEqDiff, reduceIte, reduceCtorEq, Nat.reduceLeDiff]; rfl) ?_
    refine bad_ok C (x := 4) hp1 fun w q1 q2 q3 => ?_
    have hst := res_store (vs := [V.int .i64 0, V.str [], V.int .i64 0]) ((q2.heap aw.next (Nat.lt_succ_self _) (fun h => hne h.symm)).trans fresh_get) hzl rfl
    have hrl := res_load (w := w) (b := aw.next) (vs := [V.int .i64 0, V.str [], V.int .i64 0]) (n := 3) rfl
    refine WS_run 1000 (by simp only [go_sem, eRun_exit, Nat.reduceAdd, Nat.reduceLT, Nat.reduceEqDiff, reduceIte, reduceCtorEq, Nat.reduceLeDiff, f0, f2, evParts, fillV, V.cells, hst, List.length_cons, List.length_nil]; rfl) ?_
    refine WS_ret ⟨_, by simp only [go_sem, eRun_exit, Nat.reduceAdd, Nat.reduceLT, Nat.reduceEqDiff, reduceIte, reduceCtorEq, Nat.reduceLeDiff, k_ref8_P_term, f2, hrl]; rfl, ?_⟩
    rw [hr] at h
    have := h (w.turn aw.next (.cells zs .own)) (q1.frm (S := fun b => b = aw.next) (turn_frm rfl (.inl rfl)) (fun h => hne h)) (out_frm q2)
    rw [hzs] at this; exact this
  by_cases he : e = 0
  case neg =>
    have hr : rTerm ws k e = (Tm.zero, k, rBad e 4) := by simp [rTerm, rNext, he]
    refine WS_runB 1000 (by simp only [go_sem, eRun_exit, Nat.reduceAdd, Nat.reduceLT, Nat.reduceEqDiff, reduceIte, reduceCtorEq, Nat.reduceLeDiff, k_ref8_P_term, ← hzs, l2, he]; rfl) ?_
    exact no hr (by simp only [go_sem, eRun_exit, Nat.reduceAdd, Nat.reduceLT, Nat.reduceEqDiff, reduceIte, reduceCtorEq, Nat.reduceLeDiff] <;> rfl) (by simp only [go_sem, eRun_exit, Nat.reduceAdd, Nat.reduceLT, Nat.reduceEqDiff, reduceIte, reduceCtorEq, Nat.reduceLeDiff] <;> rfl)
  subst he
  by_cases hk : ws.length ≤ k
  · have hr : rTerm ws k 0 = (Tm.zero, k, rBad 0 4) := by
      have : rNext ws k 0 = none := by unfold rNext; rw [if_pos rfl, List.getElem?_eq_none hk]
      simp only [rTerm, this]
    rcases hw1.at with ⟨rfl, rfl⟩ | ⟨b, o, c, rfl, hneb, hltb, hat⟩
    · have e1 : 0 ≤ k := by omega
      refine WS_runB 1000 (by simp only [go_sem, eRun_exit, Nat.reduceAdd, Nat.reduceLT, Nat.reduceEqDiff, reduceIte, reduceCtorEq, Nat.reduceLeDiff, k_ref8_P_term, ← hzs, l0, l1, l2, e1]; rfl) ?_
      exact no hr (by simp only [go_sem, eRun_exit, Nat.reduceAdd, Nat.reduceLT, Nat.reduceEqDiff, reduceIte, reduceCtorEq, Nat.reduceLeDiff] <;> rfl) (by simp only [go_sem, eRun_exit, Nat.reduceAdd, Nat.reduceLT, Nat.reduceEqDiff, reduceIte, reduceCtorEq, Nat.reduceLeDiff] <;> rfl)
    · refine WS_runB 1000 (by simp only [go_sem, eRun_exit, Nat.reduceAdd, Nat.reduceLT, Nat.reduceEqDiff, reduceIte, reduceCtorEq, Nat.reduceLeDiff, k_ref8_P_term, ← hzs, l0, l1, l2, hk]; rfl) ?_
      exact no hr (by simp only [go_sem, eRun_exit, Nat.reduceAdd, Nat.reduceLT, Nat.reduceEqDiff, reduceIte, reduceCtorEq, Nat.reduceLeDiff] <;> rfl) (by simp only [go_sem, eRun_exit, Nat.reduceAdd, Nat.reduceLT, Nat.reduceEqDiff, reduceIte, reduceCtorEq, Nat.reduceLeDiff] <;> rfl)
  have hkl : k < ws.length := by omega
  obtain ⟨x, hx⟩ : ∃ x, ws[k]? = some x := ⟨_, List.getElem?_eq_getElem hkl⟩
  have hnx : rNext ws k 0 = some x := by unfold rNext; rw [if_pos rfl, hx]
  obtain ⟨x1, x2, x3, x4, x5⟩ := hok x (List.mem_of_getElem? hx)
  rcases hw1.at with ⟨rfl, rfl⟩ | ⟨b, o, c, rfl, hneb, hltb, hat⟩
  · simp at hkl
  obtain ⟨a1, a2, a3⟩ := hat k x hx
  by_cases h4 : x.kind = 4
  · have hr : rTerm ws k 0 = (Tm.zero, k, rBad 0 4) := by
      simp only [rTerm, hnx]
      rw [if_pos h4]; rfl
    refine WS_runB 1000 (by simp only [go_sem, eRun_exit, Nat.reduceAdd, Nat.reduceLT, Nat.reduceEqDiff, reduceIte, reduceCtorEq, Nat.reduceLeDiff, k_ref8_P_term, ← hzs, l0, l1, l2, hk, hkl, a1, h4]; rfl) ?_
    exact no hr (by simp only [go_sem, eRun_exit, Nat.reduceAdd, Nat.reduceLT, Nat.reduceEqDiff, reduceIte, reduceCtorEq, Nat.reduceLeDiff] <;> rfl) (by simp only [go_sem, eRun_exit, Nat.reduceAdd, Nat.reduceLT, Nat.reduceEqDiff, reduceIte, reduceCtorEq, Nat.reduceLeDiff] <;> rfl)
  -- a word
  refine WS_run 1000 (by simp only [go_sem, eRun_exit, Nat.reduceAdd, Nat.reduceLT, Nat.reduceEqDiff, reduceIte, reduceCtorEq, Nat.reduceLeDiff, k_ref8_P_term, ← hzs, l0, l1, l2, hk, hkl, a1, h4]; rfl) ?_
  refine WS_drawn ?_
  have hbn : ¬ b = (aw.fresh zs).next := by omega
  have lift : ∀ {b' o' n' l'}, b' < (aw.fresh zs).next → (aw.fresh zs).load b' o' n' = some l' → ((aw.fresh zs).fresh zs).load b' o' n' = some l' := by
    intro b' o' n' l' hb hl
    have : ((aw.fresh zs).fresh zs).heap.get b' = (aw.fresh zs).heap.get b' := AE.T.get_put_ne (by omega)
    simp only [AW.load] at hl ⊢
    rw [this]; exact hl
  have m0 := lift hp1.lt l0
  have m1 := lift hp1.lt l1
  have m3 := lift hltb a3
  have hst := res_store (w := (aw.fresh zs).fresh zs) (vs := wdCells x) fresh_get hzl rfl
  refine WDs_run 100 (by simp only [go_sem, eRun_exit, Nat.reduceAdd, Nat.reduceLT, Nat.reduceEqDiff, reduceIte, reduceCtorEq, Nat.reduceLeDiff, ← hzs, l0, l1, hkl, a3, wdCells_len, hst]; rfl) ?_
  refine WDs_nil ⟨(show chkAll _ _ [(3, 10), (7, 10), (9, 10)] from by simp only [go_sem, eRun_exit, Nat.reduceAdd, Nat.reduceLT, Nat.reduceEqDiff, reduceIte, reduceCtorEq, Nat.reduceLeDiff, chkAll, chk, List.reverse_cons, List.reverse_nil, mkStp_fe, mkStp_v, mkStp_0, mkStp_1, List.getElem?_nil, false_or, or_true, or_false, exists_eq', Option.some.injEq, Prod.mk.injEq, Bool.true_eq_false, Bool.false_eq_true, and_true, true_and, implies_true,  l0, l1, m0, m1, hkl, a3, m3]), ?_⟩
  -- what there is now
  have g2 : Frm (fun _ => False) (aw.fresh zs) (((aw.fresh zs).fresh zs).turn (aw.fresh zs).next (.cells (wdCells x) .own)) := by
    refine (fresh_frm (S := fun _ => False) _ zs).trans (T := fun b => b = (aw.fresh zs).next) (turn_frm rfl (.inl rfl)) (fun _ _ h => h) ?_
    rintro y hy rfl; omega
  have g3 : (((aw.fresh zs).fresh zs).turn (aw.fresh zs).next (.cells (wdCells x) .own)).heap.get (aw.fresh zs).next = some (.cells (wdCells x) .own) := AE.T.get_put_same
  generalize ((aw.fresh zs).fresh zs).turn (aw.fresh zs).next (.cells (wdCells x) .own) = w3 at g2 g3 ⊢
  have hp3 := hp1.frm g2 fun h => h
  have hwr : IntKind.wrap .i64 (Int.ofNat k + 1) = Int.ofNat (k + 1) := wrap_succ (by have := hw.len; omega)
  have hn1 : ¬ (aw.fresh zs).next = bp := by have := hp1.lt; omega
  have g4 : (PSt.mk' w3 bp (.slice b o ws.length c) (k + 1) 0).heap.get (aw.fresh zs).next = some (.cells (wdCells x) .own) := (AE.T.get_put_ne hn1).trans g3
  have hp4 := PSt.made (wv := .slice b o ws.length c) (k := k + 1) (e := 0) hp3.lt
  have g5 : Frm (fun b => b = bp) (aw.fresh zs) (PSt.mk' w3 bp (.slice b o ws.length c) (k + 1) 0) := g2.trans PSt.made_frm (fun _ _ h => h.elim) (fun _ _ h => h)
  have s1 := hp3.s1 (k + 1)
  have l31 := hp3.l1
  generalize hw4 : PSt.mk' w3 bp (.slice b o ws.length c) (k + 1) 0 = w4 at g4 hp4 g5 s1
  have c0 : w4.load (aw.fresh zs).next 0 1 = some [.int .i64 (Int.ofNat x.kind)] := by simp only [AW.load, g4]; rfl
  have c1 : w4.load (aw.fresh zs).next 1 1 = some [.str x.text] := by simp only [AW.load, g4]; rfl
  have gn0 : w4.heap.get aw.next = some (.cells zs .own) := (g5.heap aw.next (Nat.lt_succ_self _) (fun h => hne h.symm)).trans fresh_get
  -- the end
  have fine : ∀ (w : AW) (k' e' : Nat) (t : Tm), PSt w bp (.slice b o ws.length c) k' e' → Frm (fun b => b = bp) (aw.fresh zs) w → rTerm ws k 0 = (t, k', e') → K (.agg (tmC t)) (w.turn aw.next (.cells (tmC t) .own)) := by
    intro w k' e' t h1 h2 h3
    rw [h3] at h
    exact h _ (h1.frm (S := fun b => b = aw.next) (turn_frm rfl (.inl rfl)) (fun h => hne h)) (out_frm h2)
  by_cases hk1 : x.kind = 1
  · have hr : rTerm ws k 0 = (⟨2, x.text, 0⟩, k + 1, 0) := by
      simp only [rTerm, hnx]
      rw [if_neg h4, if_pos hk1]
    have hst := res_store (vs := [V.int .i64 2, V.str x.text, V.int .i64 0]) gn0 hzl rfl
    have hrl := res_load (w := w4) (b := aw.next) (vs := [V.int .i64 2, V.str x.text, V.int .i64 0]) (n := 3) rfl
    refine WS_run 1000 (by simp only [go_sem, eRun_exit, Nat.reduceAdd, Nat.reduceLT, Nat.reduceEqDiff, reduceIte, reduceCtorEq, Nat.reduceLeDiff, k_ref8_P_term_p3, k_ref8_P_term_p2, l31, hwr, s1, c0, c1, hk1, evParts, fillV, over, hst, List.length_cons, List.length_nil]; rfl) ?_
    refine WS_ret ⟨_, by simp only [go_sem, eRun_exit, Nat.reduceAdd, Nat.reduceLT, Nat.reduceEqDiff, reduceIte, reduceCtorEq, Nat.reduceLeDiff, k_ref8_P_term, hrl]; rfl, ?_⟩
    exact fine w4 _ _ _ hp4 g5 hr
  by_cases hk2 : x.kind = 2
  · have hr : rTerm ws k 0 = (⟨1, x.text, 0⟩, k + 1, 0) := by
      simp only [rTerm, hnx]
      rw [if_neg h4, if_neg hk1, if_pos hk2]
    have hst := res_store (vs := [V.int .i64 1, V.str x.text, V.int .i64 0]) gn0 hzl rfl
    have hrl := res_load (w := w4) (b := aw.next) (vs := [V.int .i64 1, V.str x.text, V.int .i64 0]) (n := 3) rfl
    refine WS_run 1000 (by simp only [go_sem, eRun_exit, Nat.reduceAdd, Nat.reduceLT, Nat.reduceEqDiff, reduceIte, reduceCtorEq, Nat.reduceLeDiff, k_ref8_P_term_p3, k_ref8_P_term_p1, l31, hwr, s1, c0, c1, hk1, hk2, evParts, fillV, over, hst, List.length_cons, List.length_nil]; rfl) ?_
    refine WS_ret ⟨_, by simp only [go_sem, eRun_exit, Nat.reduceAdd, Nat.reduceLT, Nat.reduceEqDiff, reduceIte, reduceCtorEq, Nat.reduceLeDiff, k_ref8_P_term, hrl]; rfl, ?_⟩
    exact fine w4 _ _ _ hp4 g5 hr
  -- a number
  have hlen := x2 h4
  refine WS_run 1000 (by simp only [go_sem, eRun_exit, Nat.reduceAdd, Nat.reduceLT, Nat.reduceEqDiff, reduceIte, reduceCtorEq, Nat.reduceLeDiff, k_ref8_P_term_p3, l31, hwr, s1, c0, c1, hk1, hk2, List.length_cons, List.length_nil]; rfl) ?_
  refine WS_loop (NumI aw.next (aw.fresh zs).next bp x.text w4) ?_ x.text.length ⟨0, 0, (by simp only [go_sem, eRun_exit, Nat.reduceAdd, Nat.reduceLT, Nat.reduceEqDiff, reduceIte, reduceCtorEq, Nat.reduceLeDiff] <;> rfl), (by simp only [go_sem, eRun_exit, Nat.reduceAdd, Nat.reduceLT, Nat.reduceEqDiff, reduceIte, reduceCtorEq, Nat.reduceLeDiff] <;> rfl), (by simp only [go_sem, eRun_exit, Nat.reduceAdd, Nat.reduceLT, Nat.reduceEqDiff, reduceIte, reduceCtorEq, Nat.reduceLeDiff] <;> rfl), (by simp only [go_sem, eRun_exit, Nat.reduceAdd, Nat.reduceLT, Nat.reduceEqDiff, reduceIte, reduceCtorEq, Nat.reduceLeDiff] <;> rfl), (by simp only [go_sem, eRun_exit, Nat.reduceAdd, Nat.reduceLT, Nat.reduceEqDiff, reduceIte, reduceCtorEq, Nat.reduceLeDiff] <;> rfl), rfl, by omega, rfl, by simp, by omega⟩
  rintro q f w ⟨i, m, f0, f2, f3, f4, f5, rfl, hi, hm, hb, rfl⟩ ih
  by_cases hil : i < x.text.length
  · obtain ⟨ch, hch⟩ : ∃ ch, x.text[i]? = some ch := ⟨_, List.getElem?_eq_getElem hil⟩
    have hc256 : ch < 256 := x5 ch (List.mem_of_getElem? hch)
    have hwi : IntKind.wrap .i64 (Int.ofNat i + 1) = Int.ofNat (i + 1) := wrap_succ (by omega)
    have hd : x.text.drop i = ch :: x.text.drop (i + 1) := by
      rw [List.drop_eq_getElem_cons hil]; rw [List.getElem?_eq_getElem hil] at hch; rw [Option.some.inj hch]
    rw [hd, List.foldl_cons] at hm
    have hpow : 29 * 10 ^ (i + 1) ≤ 290000000000000000 := by
      have : 10 ^ (i + 1) ≤ 10 ^ 16 := Nat.pow_le_pow_right (by omega) (by omega)
      omega
    have hp10 : 10 ^ (i + 1) = 10 ^ i * 10 := Nat.pow_succ ..
    by_cases h45 : ch = 45
    · rw [show rDig m ch = m from if_pos h45] at hm
      refine WS_run 1000 (by simp only [go_sem, eRun_exit, Nat.reduceAdd, Nat.reduceLT, Nat.reduceEqDiff, reduceIte, reduceCtorEq, Nat.reduceLeDiff, k_ref8_P_term_p6, k_ref8_P_term_p5, f0, f2, f3, f4, f5, c1, hil, hch, h45, hwi]; rfl) ?_
      exact ih (x.text.length - (i + 1)) _ _ (by omega) ⟨i + 1, m, (by simp only [go_sem, eRun_exit, Nat.reduceAdd, Nat.reduceLT, Nat.reduceEqDiff, reduceIte, reduceCtorEq, Nat.reduceLeDiff, f0] <;> rfl), (by simp only [go_sem, eRun_exit, Nat.reduceAdd, Nat.reduceLT, Nat.reduceEqDiff, reduceIte, reduceCtorEq, Nat.reduceLeDiff, f2] <;> rfl), (by simp only [go_sem, eRun_exit, Nat.reduceAdd, Nat.reduceLT, Nat.reduceEqDiff, reduceIte, reduceCtorEq, Nat.reduceLeDiff, f3] <;> rfl), (by simp only [go_sem, eRun_exit, Nat.reduceAdd, Nat.reduceLT, Nat.reduceEqDiff, reduceIte, reduceCtorEq, Nat.reduceLeDiff, f4] <;> rfl), (by simp only [go_sem, eRun_exit, Nat.reduceAdd, Nat.reduceLT, Nat.reduceEqDiff, reduceIte, reduceCtorEq, Nat.reduceLeDiff] <;> rfl), rfl, by omega, hm, by omega, rfl⟩
    · rw [show rDig m ch = m * 10 + (ch + 208) % 256 from if_neg h45] at hm
      have e1 := u8sub hc256
      have e2 : IntKind.wrap .i64 (Int.ofNat ((ch + 208) % 256)) = Int.ofNat ((ch + 208) % 256) := i64_small (by omega)
      have e3 : IntKind.wrap .i64 (Int.ofNat m * 10) = Int.ofNat (m * 10) := by
        have : Int.ofNat m * 10 = Int.ofNat (m * 10) := by simp
        rw [this]; exact i64_small (by omega)
      have e4 : IntKind.wrap .i64 (Int.ofNat (m * 10) + Int.ofNat ((ch + 208) % 256)) = Int.ofNat (m * 10 + (ch + 208) % 256) := wrap_add (by omega)
      refine WS_run 1000 (by simp only [go_sem, eRun_exit, Nat.reduceAdd, Nat.reduceLT, Nat.reduceEqDiff, reduceIte, reduceCtorEq, Nat.reduceLeDiff, k_ref8_P_term_p6, k_ref8_P_term_p5, k_ref8_P_term_p4, f0, f2, f3, f4, f5, c1, hil, hch, h45, hwi, e1, e2, e3, e4]; rfl) ?_
      exact ih (x.text.length - (i + 1)) _ _ (by omega) ⟨i + 1, _, (by simp only [go_sem, eRun_exit, Nat.reduceAdd, Nat.reduceLT, Nat.reduceEqDiff, reduceIte, reduceCtorEq, Nat.reduceLeDiff, f0] <;> rfl), (by simp only [go_sem, eRun_exit, Nat.reduceAdd, Nat.reduceLT, Nat.reduceEqDiff, reduceIte, reduceCtorEq, Nat.reduceLeDiff, f2] <;> rfl), (by simp only [go_sem, eRun_exit, Nat.reduceAdd, Nat.reduceLT, Nat.reduceEqDiff, reduceIte, reduceCtorEq, Nat.reduceLeDiff, f3] <;> rfl), (by simp only [go_sem, eRun_exit, Nat.reduceAdd, Nat.reduceLT, Nat.reduceEqDiff, reduceIte, reduceCtorEq, Nat.reduceLeDiff] <;> rfl), (by simp only [go_sem, eRun_exit, Nat.reduceAdd, Nat.reduceLT, Nat.reduceEqDiff, reduceIte, reduceCtorEq, Nat.reduceLeDiff] <;> rfl), rfl, by omega, hm, by omega, rfl⟩
  · rw [List.drop_eq_nil_of_le (by omega : x.text.length ≤ i)] at hm
    have hm : rNum x.text = m := hm
    by_cases hbig : 2147483648 < m
    · have hr : rTerm ws k 0 = (Tm.zero, k + 1, 4) := by
        simp only [rTerm, hnx]
        rw [if_neg h4, if_neg hk1, if_neg hk2, if_pos (by omega)]
      refine WS_run 1000 (by simp only [go_sem, eRun_exit, Nat.reduceAdd, Nat.reduceLT, Nat.reduceEqDiff, reduceIte, reduceCtorEq, Nat.reduceLeDiff, k_ref8_P_term_p6, k_ref8_P_term_p7, f0, f2, f3, f4, f5, c1, hil, hbig]; rfl) ?_
      refine WS_call (by simp only [go_sem, eRun_exit, Nat.reduceAdd, Nat.reduceLT, Nat.reduceEqDiff, reduceIte, reduceCtorEq, Nat.reduceLeDiff]) (by simp only [go_sem, eRun_exit, Nat.reduceAdd, Nat.reduceLT, Nat.reduceEqDiff, reduceIte, reduceCtorEq, Nat.reduceLeDiff]; rfl) ?_
      refine bad_ok C (x := 4) hp4 fun w5 q1 q2 q3 => ?_
      have gn5 : w5.heap.get aw.next = some (.cells zs .own) := (q2.heap aw.next (Nat.lt_of_lt_of_le (Nat.lt_succ_self _) g5.next) (fun h => hne h.symm)).trans gn0
      have hst := res_store (vs := [V.int .i64 0, V.str [], V.int .i64 0]) gn5 hzl rfl
      have hrl := res_load (w := w5) (b := aw.next) (vs := [V.int .i64 0, V.str [], V.int .i64 0]) (n := 3) rfl
      refine WS_run 1000 (by simp only [go_sem, eRun_exit, Nat.reduceAdd, Nat.reduceLT, Nat.reduceEqDiff, reduceIte, reduceCtorEq, Nat.reduceLeDiff, f0, f2, evParts, fillV, over, hst, List.length_cons, List.length_nil]; rfl) ?_
      refine WS_ret ⟨_, by simp only [go_sem, eRun_exit, Nat.reduceAdd, Nat.reduceLT, Nat.reduceEqDiff, reduceIte, reduceCtorEq, Nat.reduceLeDiff, k_ref8_P_term, f2, hrl]; rfl, ?_⟩
      exact fine w5 _ _ _ q1 (g5.trans q2 (fun _ _ h => h) (fun _ _ h => h)) hr
    · obtain ⟨c0', t', hct⟩ : ∃ c t, x.text = c :: t := by
        cases hh : x.text with
        | nil => exact absurd hh x1
        | cons c t => exact ⟨c, t, rfl⟩
      have hl0 : 0 < x.text.length := by rw [hct]; simp
      have hch0 : x.text[0]? = some c0' := by rw [hct]; rfl
      by_cases h45 : c0' = 45
      · have hr : rTerm ws k 0 = (⟨3, [], -(m : Int)⟩, k + 1, 0) := by
          simp only [rTerm, hnx]
          rw [if_neg h4, if_neg hk1, if_neg hk2, if_neg (by omega), hct, hm.symm, hct]
          simp [h45]
        have e5 : IntKind.wrap .i64 (0 - Int.ofNat m) = -(m : Int) := by
          have : (0 : Int) - Int.ofNat m = -(m : Int) := by simp
          rw [this]; exact wrap_id (by omega) (by omega)
        have hst := res_store (vs := [V.int .i64 3, V.str [], V.int .i64 (-(m : Int))]) gn0 hzl rfl
        have hrl := res_load (w := w) (b := aw.next) (vs := [V.int .i64 3, V.str [], V.int .i64 (-(m : Int))]) (n := 3) rfl
        refine WS_run 1000 (by simp only [go_sem, eRun_exit, Nat.reduceAdd, Nat.reduceLT, Nat.reduceEqDiff, reduceIte, reduceCtorEq, Nat.reduceLeDiff, k_ref8_P_term_p6, f0, f2, f3, f4, f5, c1, hil, hbig, hl0, hch0, h45, e5, evParts, fillV, hov, over, hst, List.length_cons, List.length_nil]; rfl) ?_
        refine WS_ret ⟨_, by simp only [go_sem, eRun_exit, Nat.reduceAdd, Nat.reduceLT, Nat.reduceEqDiff, reduceIte, reduceCtorEq, Nat.reduceLeDiff, k_ref8_P_term, f2, hrl]; rfl, ?_⟩
        exact fine w _ _ _ hp4 g5 hr
      · have hr : rTerm ws k 0 = (⟨3, [], (m : Int)⟩, k + 1, 0) := by
          simp only [rTerm, hnx]
          rw [if_neg h4, if_neg hk1, if_neg hk2, if_neg (by omega), hct, hm.symm, hct]
          simp [h45]
        have hst := res_store (vs := [V.int .i64 3, V.str [], V.int .i64 (Int.ofNat m)]) gn0 hzl rfl
        have hrl := res_load (w := w) (b := aw.next) (vs := [V.int .i64 3, V.str [], V.int .i64 (Int.ofNat m)]) (n := 3) rfl
        refine WS_run 1000 (by simp only [go_sem, eRun_exit, Nat.reduceAdd, Nat.reduceLT, Nat.reduceEqDiff, reduceIte, reduceCtorEq, Nat.reduceLeDiff, k_ref8_P_term_p6, f0, f2, f3, f4, f5, c1, hil, hbig, hl0, hch0, h45, evParts, fillV, hov, over, hst, List.length_cons, List.length_nil]; rfl) ?_
        refine WS_ret ⟨_, by simp only [go_sem, eRun_exit, Nat.reduceAdd, Nat.reduceLT, Nat.reduceEqDiff, reduceIte, reduceCtorEq, Nat.reduceLeDiff, k_ref8_P_term, f2, hrl]; rfl, ?_⟩
        exact fine w _ _ _ hp4 g5 hr
end Go.Proofs.YtpbdojjfokelaaaDoor
