/- A part of the proof: PLex, PLex2, PLex3, PLex4, W4, W5, W6, W7, PSyn1, PSyn2, PSyn3, PSyn4, PSyn5, PSyn6, PSyn7, PSyn8. -/
import Derived.Test.YtpbdojjfokelaaaDoorSdF
import Derived.Test.YtpbdojjfokelaaaDoorSdG
set_option linter.unusedVariables false
set_option linter.unusedSimpArgs false
namespace Go.Proofs.YtpbdojjfokelaaaDoor
open Go.AE Delphi
variable {tab : Tab}
theorem small_ok (C : Codes tab) {c : Nat} {aw : AW} {K : V → AW → Prop} (h : K (.bool (isSmall c)) aw) : WF tab n_lex_small [.int .u8 (Int.ofNat c)] aw K := by
  refine WF_of C.c_lex_small rfl ?_
  unfold isSmall at h
  cases h1 : decide (97 ≤ c) <;> rw [h1] at h <;> refine WS_run 1000 (by simp only [go_sem, eRun_exit, Nat.reduceAdd, Nat.reduceLT, Nat.reduceEqDiff, reduceIte, reduceCtorEq, Nat.reduceLeDiff, k_lex_small, h1]; rfl) ?_ <;> refine WS_ret ⟨_, by simp only [go_sem, eRun_exit, Nat.reduceAdd, Nat.reduceLT, Nat.reduceEqDiff, reduceIte, reduceCtorEq, Nat.reduceLeDiff, k_lex_small]; rfl, ?_⟩ <;> exact h
theorem digit_ok (C : Codes tab) {c : Nat} {aw : AW} {K : V → AW → Prop} (h : K (.bool (isDigit c)) aw) : WF tab n_lex_digit [.int .u8 (Int.ofNat c)] aw K := by
  refine WF_of C.c_lex_digit rfl ?_
  unfold isDigit at h
  cases h1 : decide (48 ≤ c) <;> rw [h1] at h <;> refine WS_run 1000 (by simp only [go_sem, eRun_exit, Nat.reduceAdd, Nat.reduceLT, Nat.reduceEqDiff, reduceIte, reduceCtorEq, Nat.reduceLeDiff, k_lex_digit, h1]; rfl) ?_ <;> refine WS_ret ⟨_, by simp only [go_sem, eRun_exit, Nat.reduceAdd, Nat.reduceLT, Nat.reduceEqDiff, reduceIte, reduceCtorEq, Nat.reduceLeDiff, k_lex_digit]; rfl, ?_⟩ <;> exact h
theorem great_ok (C : Codes tab) {c : Nat} {aw : AW} {K : V → AW → Prop} (h : K (.bool (isGreat c)) aw) : WF tab n_lex_great [.int .u8 (Int.ofNat c)] aw K := by
  refine WF_of C.c_lex_great rfl ?_
  unfold isGreat at h
  cases h1 : decide (65 ≤ c) <;> rw [h1] at h <;> refine WS_run 1000 (by simp only [go_sem, eRun_exit, Nat.reduceAdd, Nat.reduceLT, Nat.reduceEqDiff, reduceIte, reduceCtorEq, Nat.reduceLeDiff, k_lex_great, h1]; rfl) ?_ <;> refine WS_ret ⟨_, by simp only [go_sem, eRun_exit, Nat.reduceAdd, Nat.reduceLT, Nat.reduceEqDiff, reduceIte, reduceCtorEq, Nat.reduceLeDiff, k_lex_great]; rfl, ?_⟩ <;> exact h
theorem named_ok (C : Codes tab) {c : Nat} {aw : AW} {K : V → AW → Prop} (h : K (.bool (isNamed c)) aw) : WF tab n_lex_named [.int .u8 (Int.ofNat c)] aw K := by
  refine WF_of C.c_lex_named rfl ?_
  unfold isNamed at h
  refine WS_run 1000 (by simp only [go_sem, eRun_exit, Nat.reduceAdd, Nat.reduceLT, Nat.reduceEqDiff, reduceIte, reduceCtorEq, Nat.reduceLeDiff, k_lex_named]; rfl) ?_
  refine WS_call (by simp only [go_sem, eRun_exit, Nat.reduceAdd, Nat.reduceLT, Nat.reduceEqDiff, reduceIte, reduceCtorEq, Nat.reduceLeDiff]) (by simp only [go_sem, eRun_exit, Nat.reduceAdd, Nat.reduceLT, Nat.reduceEqDiff, reduceIte, reduceCtorEq, Nat.reduceLeDiff]; rfl) ?_
  refine small_ok C ?_
  cases h1 : isSmall c <;> rw [h1] at h
  · refine WS_run 1000 (by simp only [go_sem, eRun_exit, Nat.reduceAdd, Nat.reduceLT, Nat.reduceEqDiff, reduceIte, reduceCtorEq, Nat.reduceLeDiff]; rfl) ?_
    refine WS_call (by simp only [go_sem, eRun_exit, Nat.reduceAdd, Nat.reduceLT, Nat.reduceEqDiff, reduceIte, reduceCtorEq, Nat.reduceLeDiff]) (by simp only [go_sem, eRun_exit, Nat.reduceAdd, Nat.reduceLT, Nat.reduceEqDiff, reduceIte, reduceCtorEq, Nat.reduceLeDiff]; rfl) ?_
    refine digit_ok C ?_
    cases h2 : isDigit c <;> rw [h2] at h <;> refine WS_run 1000 (by simp only [go_sem, eRun_exit, Nat.reduceAdd, Nat.reduceLT, Nat.reduceEqDiff, reduceIte, reduceCtorEq, Nat.reduceLeDiff]; rfl) ?_ <;> refine WS_ret ⟨_, by simp only [go_sem, eRun_exit, Nat.reduceAdd, Nat.reduceLT, Nat.reduceEqDiff, reduceIte, reduceCtorEq, Nat.reduceLeDiff, k_lex_named]; rfl, ?_⟩ <;> exact h
  · refine WS_run 1000 (by simp only [go_sem, eRun_exit, Nat.reduceAdd, Nat.reduceLT, Nat.reduceEqDiff, reduceIte, reduceCtorEq, Nat.reduceLeDiff]; rfl) ?_
    refine WS_ret ⟨_, by simp only [go_sem, eRun_exit, Nat.reduceAdd, Nat.reduceLT, Nat.reduceEqDiff, reduceIte, reduceCtorEq, Nat.reduceLeDiff, k_lex_named]; rfl, ?_⟩
    exact h
theorem varc_ok (C : Codes tab) {c : Nat} {aw : AW} {K : V → AW → Prop} (h : K (.bool (isVarC c)) aw) : WF tab n_lex_word_1 [.int .u8 (Int.ofNat c)] aw K := by
  refine WF_of C.c_lex_word_1 rfl ?_
  unfold isVarC at h
  refine WS_run 1000 (by simp only [go_sem, eRun_exit, Nat.reduceAdd, Nat.reduceLT, Nat.reduceEqDiff, reduceIte, reduceCtorEq, Nat.reduceLeDiff, k_lex_word_1]; rfl) ?_
  refine WS_call (by simp only [go_sem, eRun_exit, Nat.reduceAdd, Nat.reduceLT, Nat.reduceEqDiff, reduceIte, reduceCtorEq, Nat.reduceLeDiff]) (by simp only [go_sem, eRun_exit, Nat.reduceAdd, Nat.reduceLT, Nat.reduceEqDiff, reduceIte, reduceCtorEq, Nat.reduceLeDiff]; rfl) ?_
  refine named_ok C ?_
  cases h1 : isNamed c <;> rw [h1] at h
  · refine WS_run 1000 (by simp only [go_sem, eRun_exit, Nat.reduceAdd, Nat.reduceLT, Nat.reduceEqDiff, reduceIte, reduceCtorEq, Nat.reduceLeDiff]; rfl) ?_
    refine WS_call (by simp only [go_sem, eRun_exit, Nat.reduceAdd, Nat.reduceLT, Nat.reduceEqDiff, reduceIte, reduceCtorEq, Nat.reduceLeDiff]) (by simp only [go_sem, eRun_exit, Nat.reduceAdd, Nat.reduceLT, Nat.reduceEqDiff, reduceIte, reduceCtorEq, Nat.reduceLeDiff]; rfl) ?_
    refine great_ok C ?_
    refine WS_run 1000 (by simp only [go_sem, eRun_exit, Nat.reduceAdd, Nat.reduceLT, Nat.reduceEqDiff, reduceIte, reduceCtorEq, Nat.reduceLeDiff]; rfl) ?_
    refine WS_ret ⟨_, by simp only [go_sem, eRun_exit, Nat.reduceAdd, Nat.reduceLT, Nat.reduceEqDiff, reduceIte, reduceCtorEq, Nat.reduceLeDiff, k_lex_word_1]; rfl, ?_⟩
    exact h
  · refine WS_run 1000 (by simp only [go_sem, eRun_exit, Nat.reduceAdd, Nat.reduceLT, Nat.reduceEqDiff, reduceIte, reduceCtorEq, Nat.reduceLeDiff]; rfl) ?_
    refine WS_ret ⟨_, by simp only [go_sem, eRun_exit, Nat.reduceAdd, Nat.reduceLT, Nat.reduceEqDiff, reduceIte, reduceCtorEq, Nat.reduceLeDiff, k_lex_word_1]; rfl, ?_⟩
    exact h
theorem run_ok (C : Codes tab) {s : List Nat} {g : Nat} {p : Nat → Bool} {aw : AW} {K : V → AW → Prop} (hp : ∀ {c : Nat} {aw : AW} {K : V → AW → Prop}, c ∈ s → K (.bool (p c)) aw → WF tab g [.int .u8 (Int.ofNat c)] aw K)
    (hs : s.length ≤ 4611686018427387904) (h : K (.int .i64 (Int.ofNat (s.takeWhile p).length)) aw) : WF tab n_lex_run [.str s, .func (.func g) [] []] aw K := by
  refine WF_of C.c_lex_run rfl ?_
  refine WS_run 1000 (by simp only [go_sem, eRun_exit, Nat.reduceAdd, Nat.reduceLT, Nat.reduceEqDiff, reduceIte, reduceCtorEq, Nat.reduceLeDiff, k_lex_run]; rfl) ?_
  refine WS_loop (fun n f w => ∃ k, f.get 0 = some (.str s) ∧ f.get 1 = some (.func (.func g) [] []) ∧ f.get 5 = some (.int .i64 (Int.ofNat k)) ∧ (s.takeWhile p = s.take k ++ (s.drop k).takeWhile p) ∧ k ≤ s.length ∧ n = s.length - k ∧ w = aw) ?_ s.length ⟨0, (by simp only [go_sem, eRun_exit, Nat.reduceAdd, Nat.reduceLT, Nat.reduceEqDiff, reduceIte, reduceCtorEq, Nat.reduceLeDiff] <;> rfl), (by simp only [go_sem, eRun_exit, Nat.reduceAdd, Nat.reduceLT, Nat.reduceEqDiff, reduceIte, reduceCtorEq, Nat.reduceLeDiff] <;> rfl), (by simp only [go_sem, eRun_exit, Nat.reduceAdd, Nat.reduceLT, Nat.reduceEqDiff, reduceIte, reduceCtorEq, Nat.reduceLeDiff] <;> rfl), by simp, by omega, rfl, rfl⟩
  rintro n f w ⟨k, f0, f1, f5, htw, hk, rfl, rfl⟩ ih
  by_cases hlt : k < s.length
  · obtain ⟨c, hc⟩ : ∃ c, s[k]? = some c := ⟨s[k], by simp [hlt]⟩
    have hd : s.drop k = c :: s.drop (k + 1) := by
      rw [List.drop_eq_getElem_cons hlt]; simp [List.getElem?_eq_getElem hlt] at hc; rw [hc]
    have e2 : IntKind.wrap .i64 (Int.ofNat k + 1) = Int.ofNat (k + 1) := wrap_succ (by omega)
    refine WS_run 1000 (by simp only [go_sem, eRun_exit, Nat.reduceAdd, Nat.reduceLT, Nat.reduceEqDiff, reduceIte, reduceCtorEq, Nat.reduceLeDiff, k_lex_run_p0, f0, f1, f5, hlt, hc]; rfl) ?_
    refine WS_call (by simp only [go_sem, eRun_exit, Nat.reduceAdd, Nat.reduceLT, Nat.reduceEqDiff, reduceIte, reduceCtorEq, Nat.reduceLeDiff]) (by simp only [go_sem, eRun_exit, Nat.reduceAdd, Nat.reduceLT, Nat.reduceEqDiff, reduceIte, reduceCtorEq, Nat.reduceLeDiff]; rfl) ?_
    refine hp (List.mem_of_getElem? hc) ?_
    cases hpc : p c
    · refine WS_run 1000 (by simp only [go_sem, eRun_exit, Nat.reduceAdd, Nat.reduceLT, Nat.reduceEqDiff, reduceIte, reduceCtorEq, Nat.reduceLeDiff, f5]; rfl) ?_
      refine WS_ret ⟨_, by simp only [go_sem, eRun_exit, Nat.reduceAdd, Nat.reduceLT, Nat.reduceEqDiff, reduceIte, reduceCtorEq, Nat.reduceLeDiff, k_lex_run]; rfl, ?_⟩
      rw [hd, List.takeWhile_cons_of_neg (by simp [hpc]), List.append_nil] at htw
      rw [htw, List.length_take, Nat.min_eq_left (by omega)] at h
      exact h
    · refine WS_run 1000 (by simp only [go_sem, eRun_exit, Nat.reduceAdd, Nat.reduceLT, Nat.reduceEqDiff, reduceIte, reduceCtorEq, Nat.reduceLeDiff, f5, e2]; rfl) ?_
      refine ih (s.length - (k + 1)) _ _ (by omega) ⟨k + 1, (by simp only [go_sem, eRun_exit, Nat.reduceAdd, Nat.reduceLT, Nat.reduceEqDiff, reduceIte, reduceCtorEq, Nat.reduceLeDiff, f0] <;> rfl), (by simp only [go_sem, eRun_exit, Nat.reduceAdd, Nat.reduceLT, Nat.reduceEqDiff, reduceIte, reduceCtorEq, Nat.reduceLeDiff, f1] <;> rfl), (by simp only [go_sem, eRun_exit, Nat.reduceAdd, Nat.reduceLT, Nat.reduceEqDiff, reduceIte, reduceCtorEq, Nat.reduceLeDiff] <;> rfl), ?_, by omega, rfl, rfl⟩
      rw [htw, hd, List.takeWhile_cons_of_pos hpc, List.take_add_one, hc]; simp
  · have hk2 : k = s.length := by omega
    refine WS_run 1000 (by simp only [go_sem, eRun_exit, Nat.reduceAdd, Nat.reduceLT, Nat.reduceEqDiff, reduceIte, reduceCtorEq, Nat.reduceLeDiff, k_lex_run_p0, f0, f1, f5, hlt]; rfl) ?_
    refine WS_ret ⟨_, by simp only [go_sem, eRun_exit, Nat.reduceAdd, Nat.reduceLT, Nat.reduceEqDiff, reduceIte, reduceCtorEq, Nat.reduceLeDiff, k_lex_run]; rfl, ?_⟩
    subst hk2
    simp at htw
    rw [htw] at h
    exact h
theorem number_ok (C : Codes tab) {c : Nat} {t : List Nat} {aw : AW} {K : V → AW → Prop} (hs : (c :: t).length ≤ 4611686018427387904) (h : K (.int .i64 (Int.ofNat (numberLen (c :: t)))) aw) : WF tab n_lex_number [.str (c :: t)] aw K := by
  refine WF_of C.c_lex_number rfl ?_
  have hl0 : 0 ≤ (c :: t).length := Nat.zero_le _
  have hl1 : 1 ≤ (c :: t).length := by simp
  simp only [List.length_cons] at hs
  have fin : ∀ (n : Nat) (fr : Fr), n ≤ 1 → (n = 1 ↔ c = 45) → fr.get 0 = some (.str (c :: t)) → fr.get 3 = some (.int .i64 (Int.ofNat n)) → fr.get 4 = some (.int .i64 (Int.ofNat (((c :: t).drop n).takeWhile isDigit).length)) →
      WS tab [.code k_lex_number_p2, .endB 0] fr aw (fun fr' aw' => ∃ vs, resV fr' aw' k_lex_number.results = some vs ∧ K (resOne vs) aw') := by
    intro n fr hn hn1 f0 f3 f4
    have hnum : numberLen (c :: t) = (if (((c :: t).drop n).takeWhile isDigit).length = 0 then 0 else if n = 1 ∧ (c :: t)[1]? = some 48 then 0 else if (c :: t)[n]? = some 48 then 1 else n + (((c :: t).drop n).takeWhile isDigit).length) := by
      unfold numberLen
      by_cases hc : c = 45
      · have : n = 1 := hn1.2 hc
        subst this; subst hc; rfl
      · have : n = 0 := by have := mt hn1.1 hc; omega
        subst this; simp [hc]
    rw [hnum] at h
    have hdl : (((c :: t).drop n).takeWhile isDigit).length ≤ (c :: t).length := Nat.le_trans (List.takeWhile_prefix _).length_le (by simp)
    simp only [List.length_cons] at hdl
    generalize hd : (((c :: t).drop n).takeWhile isDigit).length = d at f4 h hdl
    by_cases hd0 : d = 0
    · rw [if_pos hd0] at h
      refine WS_run 1000 (by simp only [go_sem, eRun_exit, Nat.reduceAdd, Nat.reduceLT, Nat.reduceEqDiff, reduceIte, reduceCtorEq, Nat.reduceLeDiff, k_lex_number_p2, f4, hd0]; rfl) ?_
      refine WS_ret ⟨_, by simp only [go_sem, eRun_exit, Nat.reduceAdd, Nat.reduceLT, Nat.reduceEqDiff, reduceIte, reduceCtorEq, Nat.reduceLeDiff, k_lex_number]; rfl, ?_⟩
      exact h
    · rw [if_neg hd0] at h
      have hlt : n < (c :: t).length := by
        rcases Nat.lt_or_ge n (c :: t).length with h1 | h1
        · exact h1
        · rw [List.drop_eq_nil_of_le h1] at hd; simp at hd; omega
      obtain ⟨e, he⟩ : ∃ e, (c :: t)[n]? = some e := ⟨_, List.getElem?_eq_getElem hlt⟩
      by_cases hn' : n = 1
      · subst hn'
        by_cases he0 : e = 48
        · rw [if_pos ⟨rfl, by rw [he, he0]⟩] at h
          simp only [List.getElem?_cons_succ] at he
          refine WS_run 1000 (by simp only [go_sem, eRun_exit, Nat.reduceAdd, Nat.reduceLT, Nat.reduceEqDiff, reduceIte, reduceCtorEq, Nat.reduceLeDiff, k_lex_number_p2, k_lex_number_p0, f0, f3, f4, hd0, he, he0]; rfl) ?_
          refine WS_ret ⟨_, by simp only [go_sem, eRun_exit, Nat.reduceAdd, Nat.reduceLT, Nat.reduceEqDiff, reduceIte, reduceCtorEq, Nat.reduceLeDiff, k_lex_number]; rfl, ?_⟩
          exact h
        · rw [if_neg (by rw [he]; simp [he0]), if_neg (by rw [he]; simp [he0])] at h
          simp only [List.getElem?_cons_succ] at he
          have hw : IntKind.wrap .i64 (Int.ofNat 1 + Int.ofNat d) = Int.ofNat (1 + d) := wrap_add (by omega)
          refine WS_run 1000 (by simp only [go_sem, eRun_exit, Nat.reduceAdd, Nat.reduceLT, Nat.reduceEqDiff, reduceIte, reduceCtorEq, Nat.reduceLeDiff, k_lex_number_p2, k_lex_number_p0, k_lex_number_p1, f0, f3, f4, hd0, he, he0, hw]; rfl) ?_
          refine WS_ret ⟨_, by simp only [go_sem, eRun_exit, Nat.reduceAdd, Nat.reduceLT, Nat.reduceEqDiff, reduceIte, reduceCtorEq, Nat.reduceLeDiff, k_lex_number]; rfl, ?_⟩
          exact h
      · rw [if_neg (by simp [hn'])] at h
        by_cases he0 : e = 48
        · rw [if_pos (by rw [he, he0])] at h
          refine WS_run 1000 (by simp only [go_sem, eRun_exit, Nat.reduceAdd, Nat.reduceLT, Nat.reduceEqDiff, reduceIte, reduceCtorEq, Nat.reduceLeDiff, k_lex_number_p2, k_lex_number_p0, k_lex_number_p1, f0, f3, f4, hd0, hn', he, he0]; rfl) ?_
          refine WS_ret ⟨_, by simp only [go_sem, eRun_exit, Nat.reduceAdd, Nat.reduceLT, Nat.reduceEqDiff, reduceIte, reduceCtorEq, Nat.reduceLeDiff, k_lex_number]; rfl, ?_⟩
          exact h
        · rw [if_neg (by rw [he]; simp [he0])] at h
          have hw : IntKind.wrap .i64 (Int.ofNat n + Int.ofNat d) = Int.ofNat (n + d) := wrap_add (by omega)
          refine WS_run 1000 (by simp only [go_sem, eRun_exit, Nat.reduceAdd, Nat.reduceLT, Nat.reduceEqDiff, reduceIte, reduceCtorEq, Nat.reduceLeDiff, k_lex_number_p2, k_lex_number_p0, k_lex_number_p1, f0, f3, f4, hd0, hn', he, he0, hw]; rfl) ?_
          refine WS_ret ⟨_, by simp only [go_sem, eRun_exit, Nat.reduceAdd, Nat.reduceLT, Nat.reduceEqDiff, reduceIte, reduceCtorEq, Nat.reduceLeDiff, k_lex_number]; rfl, ?_⟩
          exact h
  by_cases hc : c = 45
  · subst hc
    refine WS_run 1000 (by simp only [go_sem, eRun_exit, Nat.reduceAdd, Nat.reduceLT, Nat.reduceEqDiff, reduceIte, reduceCtorEq, Nat.reduceLeDiff, k_lex_number, hl1]; rfl) ?_
    refine WS_call (by simp only [go_sem, eRun_exit, Nat.reduceAdd, Nat.reduceLT, Nat.reduceEqDiff, reduceIte, reduceCtorEq, Nat.reduceLeDiff]) (by simp only [go_sem, eRun_exit, Nat.reduceAdd, Nat.reduceLT, Nat.reduceEqDiff, reduceIte, reduceCtorEq, Nat.reduceLeDiff]; rfl) ?_
    refine run_ok C (p := isDigit) (fun _ hk => digit_ok C hk) (by simp only [List.length_drop, List.length_cons]; omega) ?_
    refine WS_runB 1000 (by simp only [go_sem, eRun_exit, Nat.reduceAdd, Nat.reduceLT, Nat.reduceEqDiff, reduceIte, reduceCtorEq, Nat.reduceLeDiff]; rfl) ?_
    refine fin 1 _ (by omega) (by simp) (by simp only [go_sem, eRun_exit, Nat.reduceAdd, Nat.reduceLT, Nat.reduceEqDiff, reduceIte, reduceCtorEq, Nat.reduceLeDiff] <;> rfl) (by simp only [go_sem, eRun_exit, Nat.reduceAdd, Nat.reduceLT, Nat.reduceEqDiff, reduceIte, reduceCtorEq, Nat.reduceLeDiff] <;> rfl) (by simp only [go_sem, eRun_exit, Nat.reduceAdd, Nat.reduceLT, Nat.reduceEqDiff, reduceIte, reduceCtorEq, Nat.reduceLeDiff] <;> rfl)
  · refine WS_run 1000 (by simp only [go_sem, eRun_exit, Nat.reduceAdd, Nat.reduceLT, Nat.reduceEqDiff, reduceIte, reduceCtorEq, Nat.reduceLeDiff, k_lex_number, hc, hl0]; rfl) ?_
    refine WS_call (by simp only [go_sem, eRun_exit, Nat.reduceAdd, Nat.reduceLT, Nat.reduceEqDiff, reduceIte, reduceCtorEq, Nat.reduceLeDiff]) (by simp only [go_sem, eRun_exit, Nat.reduceAdd, Nat.reduceLT, Nat.reduceEqDiff, reduceIte, reduceCtorEq, Nat.reduceLeDiff]; rfl) ?_
    refine run_ok C (p := isDigit) (fun _ hk => digit_ok C hk) (by simp only [List.length_drop, List.length_cons]; omega) ?_
    refine WS_runB 1000 (by simp only [go_sem, eRun_exit, Nat.reduceAdd, Nat.reduceLT, Nat.reduceEqDiff, reduceIte, reduceCtorEq, Nat.reduceLeDiff]; rfl) ?_
    refine fin 0 _ (by omega) (by simp [hc]) (by simp only [go_sem, eRun_exit, Nat.reduceAdd, Nat.reduceLT, Nat.reduceEqDiff, reduceIte, reduceCtorEq, Nat.reduceLeDiff] <;> rfl) (by simp only [go_sem, eRun_exit, Nat.reduceAdd, Nat.reduceLT, Nat.reduceEqDiff, reduceIte, reduceCtorEq, Nat.reduceLeDiff] <;> rfl) (by simp only [go_sem, eRun_exit, Nat.reduceAdd, Nat.reduceLT, Nat.reduceEqDiff, reduceIte, reduceCtorEq, Nat.reduceLeDiff] <;> rfl)
theorem isPrefix_take {g s : List Nat} : g.isPrefixOf s = (decide (g.length ≤ s.length) && eqL (s.take g.length) g) := by
  have e : ∀ (a b : List Nat), eqL a b = decide (a = b) := fun a b => by
    cases h : eqL a b with
    | true => simp [eqL_iff.1 h]
    | false => simp only [Bool.false_eq, decide_eq_false_iff_not]; intro hh; rw [eqL_iff.2 hh] at h; cases h
  rw [Bool.eq_iff_iff, List.isPrefixOf_iff_prefix, e]
  simp only [Bool.and_eq_true, decide_eq_true_eq]
  constructor
  · intro h; exact ⟨h.length_le, (List.prefix_iff_eq_take.1 h).symm⟩
  · intro h; exact List.prefix_iff_eq_take.2 h.2.symm
theorem prefix_ok (C : Codes tab) {s g : List Nat} {aw : AW} {K : V → AW → Prop} (h : K (.bool (g.isPrefixOf s)) aw) : WF tab n_strings_HasPrefix [.str s, .str g] aw K := by
  refine WF_of C.c_strings_HasPrefix rfl ?_
  refine WS_run 1000 (by simp only [go_sem, eRun_exit, Nat.reduceAdd, Nat.reduceLT, Nat.reduceEqDiff, reduceIte, reduceCtorEq, Nat.reduceLeDiff, k_strings_HasPrefix]; rfl) ?_
  refine WS_call (by simp only [go_sem, eRun_exit, Nat.reduceAdd, Nat.reduceLT, Nat.reduceEqDiff, reduceIte, reduceCtorEq, Nat.reduceLeDiff]) (by simp only [go_sem, eRun_exit, Nat.reduceAdd, Nat.reduceLT, Nat.reduceEqDiff, reduceIte, reduceCtorEq, Nat.reduceLeDiff]; rfl) ?_
  refine WF_of C.c_int_stringslite_HasPrefix rfl ?_
  rw [isPrefix_take] at h
  have hz : 0 ≤ g.length := Nat.zero_le _
  by_cases hl : g.length ≤ s.length
  · rw [decide_eq_true hl, Bool.true_and] at h
    refine WS_run 1000 (by simp only [go_sem, eRun_exit, Nat.reduceAdd, Nat.reduceLT, Nat.reduceEqDiff, reduceIte, reduceCtorEq, Nat.reduceLeDiff, k_int_stringslite_HasPrefix, hl, hz, List.drop_zero, Nat.sub_zero, strS]; rfl) ?_
    refine WS_ret ⟨_, by simp only [go_sem, eRun_exit, Nat.reduceAdd, Nat.reduceLT, Nat.reduceEqDiff, reduceIte, reduceCtorEq, Nat.reduceLeDiff, k_int_stringslite_HasPrefix]; rfl, ?_⟩
    refine WS_run 1000 (by simp only [go_sem, eRun_exit, Nat.reduceAdd, Nat.reduceLT, Nat.reduceEqDiff, reduceIte, reduceCtorEq, Nat.reduceLeDiff]; rfl) ?_
    refine WS_ret ⟨_, by simp only [go_sem, eRun_exit, Nat.reduceAdd, Nat.reduceLT, Nat.reduceEqDiff, reduceIte, reduceCtorEq, Nat.reduceLeDiff, k_strings_HasPrefix]; rfl, ?_⟩
    exact h
  · rw [decide_eq_false hl, Bool.false_and] at h
    refine WS_run 1000 (by simp only [go_sem, eRun_exit, Nat.reduceAdd, Nat.reduceLT, Nat.reduceEqDiff, reduceIte, reduceCtorEq, Nat.reduceLeDiff, k_int_stringslite_HasPrefix, hl, hz]; rfl) ?_
    refine WS_ret ⟨_, by simp only [go_sem, eRun_exit, Nat.reduceAdd, Nat.reduceLT, Nat.reduceEqDiff, reduceIte, reduceCtorEq, Nat.reduceLeDiff, k_int_stringslite_HasPrefix]; rfl, ?_⟩
    refine WS_run 1000 (by simp only [go_sem, eRun_exit, Nat.reduceAdd, Nat.reduceLT, Nat.reduceEqDiff, reduceIte, reduceCtorEq, Nat.reduceLeDiff]; rfl) ?_
    refine WS_ret ⟨_, by simp only [go_sem, eRun_exit, Nat.reduceAdd, Nat.reduceLT, Nat.reduceEqDiff, reduceIte, reduceCtorEq, Nat.reduceLeDiff, k_strings_HasPrefix]; rfl, ?_⟩
    exact h
def ExtIdx (tab : Tab) : Prop := ∀ (s : List Nat) (c : Nat) (aw : AW), c < 256 → tab.ext n_int_bytealg_IndexByteString [.str s, .int .u8 (Int.ofNat c)] aw (idxV (idxN s c)) aw
theorem indexByte_ok (C : Codes tab) (E : ExtIdx tab) {s : List Nat} {c : Nat} {aw : AW} {K : V → AW → Prop} (hc : c < 256) (h : K (idxV (idxN s c)) aw) : WF tab n_strings_IndexByte [.str s, .int .u8 (Int.ofNat c)] aw K := by
  refine WF_of C.c_strings_IndexByte rfl ?_
  refine WS_run 1000 (by simp only [go_sem, eRun_exit, Nat.reduceAdd, Nat.reduceLT, Nat.reduceEqDiff, reduceIte, reduceCtorEq, Nat.reduceLeDiff, k_strings_IndexByte]; rfl) ?_
  refine WS_call (by simp only [go_sem, eRun_exit, Nat.reduceAdd, Nat.reduceLT, Nat.reduceEqDiff, reduceIte, reduceCtorEq, Nat.reduceLeDiff]) (by simp only [go_sem, eRun_exit, Nat.reduceAdd, Nat.reduceLT, Nat.reduceEqDiff, reduceIte, reduceCtorEq, Nat.reduceLeDiff]; rfl) ?_
  refine WF_of C.c_int_stringslite_IndexByte rfl ?_
  refine WS_run 1000 (by simp only [go_sem, eRun_exit, Nat.reduceAdd, Nat.reduceLT, Nat.reduceEqDiff, reduceIte, reduceCtorEq, Nat.reduceLeDiff, k_int_stringslite_IndexByte]; rfl) ?_
  refine WS_ext (by simp only [go_sem, eRun_exit, Nat.reduceAdd, Nat.reduceLT, Nat.reduceEqDiff, reduceIte, reduceCtorEq, Nat.reduceLeDiff]) (by simp only [go_sem, eRun_exit, Nat.reduceAdd, Nat.reduceLT, Nat.reduceEqDiff, reduceIte, reduceCtorEq, Nat.reduceLeDiff] <;> rfl) (E s c aw hc) ?_
  refine WS_run 1000 (by simp only [go_sem, eRun_exit, Nat.reduceAdd, Nat.reduceLT, Nat.reduceEqDiff, reduceIte, reduceCtorEq, Nat.reduceLeDiff]; rfl) ?_
  refine WS_ret ⟨_, by simp only [go_sem, eRun_exit, Nat.reduceAdd, Nat.reduceLT, Nat.reduceEqDiff, reduceIte, reduceCtorEq, Nat.reduceLeDiff, k_int_stringslite_IndexByte]; rfl, ?_⟩
  refine WS_run 1000 (by simp only [go_sem, eRun_exit, Nat.reduceAdd, Nat.reduceLT, Nat.reduceEqDiff, reduceIte, reduceCtorEq, Nat.reduceLeDiff]; rfl) ?_
  refine WS_ret ⟨_, by simp only [go_sem, eRun_exit, Nat.reduceAdd, Nat.reduceLT, Nat.reduceEqDiff, reduceIte, reduceCtorEq, Nat.reduceLeDiff, k_strings_IndexByte]; rfl, ?_⟩
  exact h
theorem idxN_none : ∀ {s : List Nat} {c : Nat}, idxN s c = none → ∀ x ∈ s, x ≠ c
  | [], c, h => by simp
  | b :: l, c, h => by
    simp only [idxN] at h
    split at h
    · cases h
    · rename_i hb
      split at h
      · cases h
      · rename_i hn
        intro x hx
        rcases List.mem_cons.1 hx with rfl | hx
        · intro he; subst he; rw [Nat.beq_refl] at hb; cases hb
        · exact idxN_none hn x hx
theorem idxN_some : ∀ {s : List Nat} {c n : Nat}, idxN s c = some n → s[n]? = some c ∧ ∀ x ∈ s.take n, x ≠ c
  | [], c, n, h => by cases h
  | b :: l, c, n, h => by
    simp only [idxN] at h
    split at h
    · rename_i hb; cases h; simp [Nat.eq_of_beq_eq_true hb]
    · rename_i hb
      split at h
      · rename_i m hm
        cases h
        obtain ⟨h1, h2⟩ := idxN_some hm
        refine ⟨by simpa using h1, fun x hx => ?_⟩
        rcases List.mem_cons.1 (by simpa using hx) with rfl | hx
        · intro he; subst he; rw [Nat.beq_refl] at hb; cases hb
        · exact h2 x hx
      · cases h
theorem blk_note : ∀ (u : List Nat) (r : List Nat), (∀ x ∈ u, x ≠ 10) → blk true (u ++ 10 :: r) = u.length + (blk false r + 1)
  | [], r, _ => by simp [blk]
  | c :: u, r, h => by
    have hc := h c (by simp)
    have := blk_note u r (fun x hx => h x (by simp [hx]))
    simp only [List.cons_append, blk, if_neg hc, this, List.length_cons]; omega
theorem blk_noteEnd : ∀ (u : List Nat), (∀ x ∈ u, x ≠ 10) → blk true u = u.length
  | [], _ => by simp [blk]
  | c :: u, h => by
    have hc := h c (by simp)
    have := blk_noteEnd u (fun x hx => h x (by simp [hx]))
    simp only [blk, if_neg hc, this, List.length_cons]
theorem isBlank_idx {c : Nat} : isBlank c = (match idxN [32, 9, 10, 13] c with | some _ => true | none => false) := by
  simp only [isBlank, idxN]
  by_cases h1 : c = 32
  · subst h1; rfl
  by_cases h2 : c = 9
  · subst h2; rfl
  by_cases h3 : c = 10
  · subst h3; rfl
  by_cases h4 : c = 13
  · subst h4; rfl
  have e : ∀ n, c ≠ n → Nat.beq n c = false := fun n hn => by
    cases hb : Nat.beq n c with
    | false => rfl
    | true => exact absurd (Nat.eq_of_beq_eq_true hb).symm hn
  simp [h1, h2, h3, h4, e 32 h1, e 9 h2, e 10 h3, e 13 h4]
theorem blank_ok (C : Codes tab) (E : ExtIdx tab) {s : List Nat} {aw : AW} {K : V → AW → Prop} (hb : ∀ x ∈ s, x < 256) (hs : s.length ≤ 4611686018427387904) (h : K (.int .i64 (Int.ofNat (blk false s))) aw) : WF tab n_lex_blank [.str s] aw K := by
  refine WF_of C.c_lex_blank rfl ?_
  refine WS_run 1000 (by simp only [go_sem, eRun_exit, Nat.reduceAdd, Nat.reduceLT, Nat.reduceEqDiff, reduceIte, reduceCtorEq, Nat.reduceLeDiff, k_lex_blank]; rfl) ?_
  refine WS_loop (fun n f w => ∃ k, f.get 0 = some (.str s) ∧ f.get 3 = some (.int .i64 (Int.ofNat k)) ∧ blk false s = k + blk false (s.drop k) ∧ k ≤ s.length ∧ n = s.length - k ∧ w = aw) ?_ s.length ⟨0, (by simp only [go_sem, eRun_exit, Nat.reduceAdd, Nat.reduceLT, Nat.reduceEqDiff, reduceIte, reduceCtorEq, Nat.reduceLeDiff] <;> rfl), (by simp only [go_sem, eRun_exit, Nat.reduceAdd, Nat.reduceLT, Nat.reduceEqDiff, reduceIte, reduceCtorEq, Nat.reduceLeDiff] <;> rfl), by simp, by omega, rfl, rfl⟩
  rintro n f w ⟨k, f0, f3, hbl, hk, rfl, rfl⟩ ih
  by_cases hlt : k < s.length
  · obtain ⟨c, hc⟩ : ∃ c, s[k]? = some c := ⟨_, List.getElem?_eq_getElem hlt⟩
    have hd : s.drop k = c :: s.drop (k + 1) := by
      rw [List.drop_eq_getElem_cons hlt]; rw [List.getElem?_eq_getElem hlt] at hc; cases hc; rfl
    have hc256 := hb c (List.mem_of_getElem? hc)
    refine WS_run 1000 (by simp only [go_sem, eRun_exit, Nat.reduceAdd, Nat.reduceLT, Nat.reduceEqDiff, reduceIte, reduceCtorEq, Nat.reduceLeDiff, k_lex_blank_p3, k_lex_blank_p2, f0, f3, hlt, hc]; rfl) ?_
    refine WS_call (by simp only [go_sem, eRun_exit, Nat.reduceAdd, Nat.reduceLT, Nat.reduceEqDiff, reduceIte, reduceCtorEq, Nat.reduceLeDiff]) (by simp only [go_sem, eRun_exit, Nat.reduceAdd, Nat.reduceLT, Nat.reduceEqDiff, reduceIte, reduceCtorEq, Nat.reduceLeDiff]; rfl) ?_
    refine indexByte_ok C E hc256 ?_
    have hib := isBlank_idx (c := c)
    cases hx : idxN [32, 9, 10, 13] c with
    | some j =>
      rw [hx] at hib
      have hw : IntKind.wrap .i64 (Int.ofNat k + 1) = Int.ofNat (k + 1) := wrap_succ (by omega)
      refine WS_run 1000 (by simp only [go_sem, eRun_exit, Nat.reduceAdd, Nat.reduceLT, Nat.reduceEqDiff, reduceIte, reduceCtorEq, Nat.reduceLeDiff, idxV, f3, hw, Nat.zero_le]; rfl) ?_
      refine ih (s.length - (k + 1)) _ _ (by omega) ⟨k + 1, (by simp only [go_sem, eRun_exit, Nat.reduceAdd, Nat.reduceLT, Nat.reduceEqDiff, reduceIte, reduceCtorEq, Nat.reduceLeDiff, f0] <;> rfl), (by simp only [go_sem, eRun_exit, Nat.reduceAdd, Nat.reduceLT, Nat.reduceEqDiff, reduceIte, reduceCtorEq, Nat.reduceLeDiff] <;> rfl), ?_, by omega, rfl, rfl⟩
      rw [hbl, hd]; simp only [blk, hib, if_true]; omega
    | none =>
      rw [hx] at hib
      have hm1 : decide ((-1 : Int) ≥ 0) = false := by decide
      by_cases hp : c = 37
      · subst hp
        refine WS_run 1000 (by simp only [go_sem, eRun_exit, Nat.reduceAdd, Nat.reduceLT, Nat.reduceEqDiff, reduceIte, reduceCtorEq, Nat.reduceLeDiff, idxV, f0, f3, hm1, k_lex_blank_p1, k_lex_blank_p0, hc, hk]; rfl) ?_
        refine WS_call (by simp only [go_sem, eRun_exit, Nat.reduceAdd, Nat.reduceLT, Nat.reduceEqDiff, reduceIte, reduceCtorEq, Nat.reduceLeDiff]) (by simp only [go_sem, eRun_exit, Nat.reduceAdd, Nat.reduceLT, Nat.reduceEqDiff, reduceIte, reduceCtorEq, Nat.reduceLeDiff]; rfl) ?_
        refine indexByte_ok C E (by decide) ?_
        cases hy : idxN (s.drop k) 10 with
        | some j =>
          obtain ⟨h1, h2⟩ := idxN_some hy
          have hjlt : k + j < s.length := by
            have := (List.getElem?_eq_some_iff.1 h1).1
            simp only [List.length_drop] at this; omega
          have hw : IntKind.wrap .i64 (Int.ofNat k + Int.ofNat j) = Int.ofNat (k + j) := wrap_add (by omega)
          refine WS_run 1000 (by simp only [go_sem, eRun_exit, Nat.reduceAdd, Nat.reduceLT, Nat.reduceEqDiff, reduceIte, reduceCtorEq, Nat.reduceLeDiff, idxV, f0, f3, hw, Nat.zero_le]; rfl) ?_
          have hj0 : j ≠ 0 := by rintro rfl; rw [hd] at h1; simp at h1
          refine ih (s.length - (k + j)) _ _ (by omega) ⟨k + j, (by simp only [go_sem, eRun_exit, Nat.reduceAdd, Nat.reduceLT, Nat.reduceEqDiff, reduceIte, reduceCtorEq, Nat.reduceLeDiff, f0] <;> rfl), (by simp only [go_sem, eRun_exit, Nat.reduceAdd, Nat.reduceLT, Nat.reduceEqDiff, reduceIte, reduceCtorEq, Nat.reduceLeDiff] <;> rfl), ?_, by omega, rfl, rfl⟩
          have hsplit : s.drop k = (s.drop k).take j ++ 10 :: (s.drop (k + j + 1)) := by
            have e1 : (s.drop k).drop j = 10 :: (s.drop (k + j + 1)) := by
              have hl : j < (s.drop k).length := (List.getElem?_eq_some_iff.1 h1).1
              rw [List.drop_eq_getElem_cons hl]
              rw [List.getElem?_eq_getElem hl] at h1
              rw [Option.some.inj h1, List.drop_drop, Nat.add_assoc]
            rw [← e1, List.take_append_drop]
          have e2 : s.drop (k + j) = 10 :: s.drop (k + j + 1) := by
            have hl : j < (s.drop k).length := (List.getElem?_eq_some_iff.1 h1).1
            rw [← List.drop_drop, List.drop_eq_getElem_cons hl]
            rw [List.getElem?_eq_getElem hl] at h1
            rw [Option.some.inj h1, List.drop_drop, Nat.add_assoc]
          rw [hbl]
          obtain ⟨m, rfl⟩ : ∃ m, j = m + 1 := ⟨j - 1, by omega⟩
          have e3 : (s.drop k).take (m + 1) = 37 :: (s.drop (k + 1)).take m := by rw [hd, List.take_succ_cons]
          have hl3 : ((s.drop (k + 1)).take m).length = m := by simp; omega
          rw [e3] at hsplit h2
          rw [hsplit]
          have : blk false (37 :: (s.drop (k + 1)).take m ++ 10 :: s.drop (k + (m + 1) + 1)) = blk true ((s.drop (k + 1)).take m ++ 10 :: s.drop (k + (m + 1) + 1)) + 1 := by
            simp [blk, isBlank]
          rw [this, blk_note _ _ (fun x hx => h2 x (by simp [hx])), hl3, e2]
          simp only [blk, isBlank]
          simp
          omega
        | none =>
          have h2 := idxN_none hy
          refine WS_run 1000 (by simp only [go_sem, eRun_exit, Nat.reduceAdd, Nat.reduceLT, Nat.reduceEqDiff, reduceIte, reduceCtorEq, Nat.reduceLeDiff, idxV, f0, f3, hm1]; rfl) ?_
          refine ih 0 _ _ (by omega) ⟨s.length, (by simp only [go_sem, eRun_exit, Nat.reduceAdd, Nat.reduceLT, Nat.reduceEqDiff, reduceIte, reduceCtorEq, Nat.reduceLeDiff, f0] <;> rfl), (by simp only [go_sem, eRun_exit, Nat.reduceAdd, Nat.reduceLT, Nat.reduceEqDiff, reduceIte, reduceCtorEq, Nat.reduceLeDiff] <;> rfl), ?_, by omega, by omega, rfl⟩
          rw [hbl, hd]
          rw [hd] at h2
          have : blk false (37 :: s.drop (k + 1)) = blk true (s.drop (k + 1)) + 1 := by simp [blk, isBlank]
          rw [this, blk_noteEnd _ (fun x hx => h2 x (by simp [hx]))]
          simp [blk]; omega
      · refine WS_run 1000 (by simp only [go_sem, eRun_exit, Nat.reduceAdd, Nat.reduceLT, Nat.reduceEqDiff, reduceIte, reduceCtorEq, Nat.reduceLeDiff, idxV, f0, f3, hm1, k_lex_blank_p1, hc, hp]; rfl) ?_
        refine WS_ret ⟨_, by simp only [go_sem, eRun_exit, Nat.reduceAdd, Nat.reduceLT, Nat.reduceEqDiff, reduceIte, reduceCtorEq, Nat.reduceLeDiff, k_lex_blank]; rfl, ?_⟩
        rw [hbl, hd] at h
        simp only [blk, hib, Bool.false_eq_true, if_false, if_neg hp, Nat.add_zero] at h
        exact h
  · have hk2 : k = s.length := by omega
    refine WS_run 1000 (by simp only [go_sem, eRun_exit, Nat.reduceAdd, Nat.reduceLT, Nat.reduceEqDiff, reduceIte, reduceCtorEq, Nat.reduceLeDiff, k_lex_blank_p3, f0, f3, hlt]; rfl) ?_
    refine WS_ret ⟨_, by simp only [go_sem, eRun_exit, Nat.reduceAdd, Nat.reduceLT, Nat.reduceEqDiff, reduceIte, reduceCtorEq, Nat.reduceLeDiff, k_lex_blank]; rfl, ?_⟩
    subst hk2
    rw [List.drop_length] at hbl
    simp only [blk, Nat.add_zero] at hbl
    rw [hbl] at h
    exact h
theorem lex_word_ok (C : Codes tab) {c : Nat} {t : List Nat} {aw : AW} {K : V → AW → Prop} (hs : (c :: t).length ≤ 4611686018427387904)
    (h : ∀ aw', Ext aw.next aw aw' → K (.tuple [.int .i64 (Int.ofNat (lexWord (c :: t)).1), .int .i64 (Int.ofNat (lexWord (c :: t)).2)]) aw') : WF tab n_lex_word [.str (c :: t)] aw K := by
  refine WF_of C.c_lex_word rfl ?_
  refine WS_run 1000 (by simp only [go_sem, eRun_exit, Nat.reduceAdd, Nat.reduceLT, Nat.reduceEqDiff, reduceIte, reduceCtorEq, Nat.reduceLeDiff, k_lex_word, k_lex_word_p2]; rfl) ?_
  refine WS_call (by simp only [go_sem, eRun_exit, Nat.reduceAdd, Nat.reduceLT, Nat.reduceEqDiff, reduceIte, reduceCtorEq, Nat.reduceLeDiff]) (by simp only [go_sem, eRun_exit, Nat.reduceAdd, Nat.reduceLT, Nat.reduceEqDiff, reduceIte, reduceCtorEq, Nat.reduceLeDiff]; rfl) ?_
  refine small_ok C ?_
  cases h1 : isSmall c with
  | true =>
    refine WS_run 1000 (by simp only [go_sem, eRun_exit, Nat.reduceAdd, Nat.reduceLT, Nat.reduceEqDiff, reduceIte, reduceCtorEq, Nat.reduceLeDiff]; rfl) ?_
    refine WS_call (by simp only [go_sem, eRun_exit, Nat.reduceAdd, Nat.reduceLT, Nat.reduceEqDiff, reduceIte, reduceCtorEq, Nat.reduceLeDiff]) (by simp only [go_sem, eRun_exit, Nat.reduceAdd, Nat.reduceLT, Nat.reduceEqDiff, reduceIte, reduceCtorEq, Nat.reduceLeDiff]; rfl) ?_
    refine run_ok C (p := isNamed) (fun _ hk => named_ok C hk) hs ?_
    refine WS_run 1000 (by simp only [go_sem, eRun_exit, Nat.reduceAdd, Nat.reduceLT, Nat.reduceEqDiff, reduceIte, reduceCtorEq, Nat.reduceLeDiff]; rfl) ?_
    refine WS_ret ⟨_, by simp only [go_sem, eRun_exit, Nat.reduceAdd, Nat.reduceLT, Nat.reduceEqDiff, reduceIte, reduceCtorEq, Nat.reduceLeDiff, k_lex_word]; rfl, ?_⟩
    have := h aw (Ext.refl aw)
    simp only [lexWord, h1, if_true] at this
    exact this
  | false =>
    refine WS_run 1000 (by simp only [go_sem, eRun_exit, Nat.reduceAdd, Nat.reduceLT, Nat.reduceEqDiff, reduceIte, reduceCtorEq, Nat.reduceLeDiff, k_lex_word_p1]; rfl) ?_
    refine WS_call (by simp only [go_sem, eRun_exit, Nat.reduceAdd, Nat.reduceLT, Nat.reduceEqDiff, reduceIte, reduceCtorEq, Nat.reduceLeDiff]) (by simp only [go_sem, eRun_exit, Nat.reduceAdd, Nat.reduceLT, Nat.reduceEqDiff, reduceIte, reduceCtorEq, Nat.reduceLeDiff]; rfl) ?_
    refine great_ok C ?_
    cases h2 : isGreat c with
    | true =>
      refine WS_run 1000 (by simp only [go_sem, eRun_exit, Nat.reduceAdd, Nat.reduceLT, Nat.reduceEqDiff, reduceIte, reduceCtorEq, Nat.reduceLeDiff]; rfl) ?_
      refine WS_call (by simp only [go_sem, eRun_exit, Nat.reduceAdd, Nat.reduceLT, Nat.reduceEqDiff, reduceIte, reduceCtorEq, Nat.reduceLeDiff]) (by simp only [go_sem, eRun_exit, Nat.reduceAdd, Nat.reduceLT, Nat.reduceEqDiff, reduceIte, reduceCtorEq, Nat.reduceLeDiff]; rfl) ?_
      refine run_ok C (p := isVarC) (fun _ hk => varc_ok C hk) hs ?_
      refine WS_run 1000 (by simp only [go_sem, eRun_exit, Nat.reduceAdd, Nat.reduceLT, Nat.reduceEqDiff, reduceIte, reduceCtorEq, Nat.reduceLeDiff]; rfl) ?_
      refine WS_ret ⟨_, by simp only [go_sem, eRun_exit, Nat.reduceAdd, Nat.reduceLT, Nat.reduceEqDiff, reduceIte, reduceCtorEq, Nat.reduceLeDiff, k_lex_word]; rfl, ?_⟩
      have := h aw (Ext.refl aw)
      simp only [lexWord, h1, h2, if_true, Bool.false_eq_true, if_false] at this
      exact this
    | false =>
      refine WS_run 1000 (by simp only [go_sem, eRun_exit, Nat.reduceAdd, Nat.reduceLT, Nat.reduceEqDiff, reduceIte, reduceCtorEq, Nat.reduceLeDiff, k_lex_word_p0]; rfl) ?_
      refine WS_call (by simp only [go_sem, eRun_exit, Nat.reduceAdd, Nat.reduceLT, Nat.reduceEqDiff, reduceIte, reduceCtorEq, Nat.reduceLeDiff]) (by simp only [go_sem, eRun_exit, Nat.reduceAdd, Nat.reduceLT, Nat.reduceEqDiff, reduceIte, reduceCtorEq, Nat.reduceLeDiff]; rfl) ?_
      refine digit_ok C ?_
      have num : isDigit c = true ∨ c = 45 → K (.tuple [.int .i64 (Int.ofNat 3), .int .i64 (Int.ofNat (numberLen (c :: t)))]) aw := by
        intro hh
        have := h aw (Ext.refl aw)
        have hd : (isDigit c || decide (c = 45)) = true := by simpa using hh
        simp only [lexWord, h1, h2, hd, if_true, Bool.false_eq_true, if_false] at this
        exact this
      cases h3 : isDigit c with
      | true =>
        refine WS_run 1000 (by simp only [go_sem, eRun_exit, Nat.reduceAdd, Nat.reduceLT, Nat.reduceEqDiff, reduceIte, reduceCtorEq, Nat.reduceLeDiff]; rfl) ?_
        refine WS_call (by simp only [go_sem, eRun_exit, Nat.reduceAdd, Nat.reduceLT, Nat.reduceEqDiff, reduceIte, reduceCtorEq, Nat.reduceLeDiff]) (by simp only [go_sem, eRun_exit, Nat.reduceAdd, Nat.reduceLT, Nat.reduceEqDiff, reduceIte, reduceCtorEq, Nat.reduceLeDiff]; rfl) ?_
        refine number_ok C hs ?_
        refine WS_run 1000 (by simp only [go_sem, eRun_exit, Nat.reduceAdd, Nat.reduceLT, Nat.reduceEqDiff, reduceIte, reduceCtorEq, Nat.reduceLeDiff]; rfl) ?_
        refine WS_ret ⟨_, by simp only [go_sem, eRun_exit, Nat.reduceAdd, Nat.reduceLT, Nat.reduceEqDiff, reduceIte, reduceCtorEq, Nat.reduceLeDiff, k_lex_word]; rfl, ?_⟩
        exact num (.inl h3)
      | false =>
        by_cases h4 : c = 45
        · refine WS_run 1000 (by simp only [go_sem, eRun_exit, Nat.reduceAdd, Nat.reduceLT, Nat.reduceEqDiff, reduceIte, reduceCtorEq, Nat.reduceLeDiff, h4]; rfl) ?_
          refine WS_call (by simp only [go_sem, eRun_exit, Nat.reduceAdd, Nat.reduceLT, Nat.reduceEqDiff, reduceIte, reduceCtorEq, Nat.reduceLeDiff]) (by simp only [go_sem, eRun_exit, Nat.reduceAdd, Nat.reduceLT, Nat.reduceEqDiff, reduceIte, reduceCtorEq, Nat.reduceLeDiff]; rfl) ?_
          subst h4
          refine number_ok C hs ?_
          refine WS_run 1000 (by simp only [go_sem, eRun_exit, Nat.reduceAdd, Nat.reduceLT, Nat.reduceEqDiff, reduceIte, reduceCtorEq, Nat.reduceLeDiff]; rfl) ?_
          refine WS_ret ⟨_, by simp only [go_sem, eRun_exit, Nat.reduceAdd, Nat.reduceLT, Nat.reduceEqDiff, reduceIte, reduceCtorEq, Nat.reduceLeDiff, k_lex_word]; rfl, ?_⟩
          exact num (.inr rfl)
        · have hl : lexWord (c :: t) = (match signs.find? (fun g => g.isPrefixOf (c :: t)) with
              | some g => (4, g.length)
              | none => (0, 0)) := by
            simp only [lexWord, h1, h2, h3, Bool.false_or, decide_eq_false h4, Bool.false_eq_true, if_false]; rfl
          refine WS_run 1000 (by simp only [go_sem, eRun_exit, Nat.reduceAdd, Nat.reduceLT, Nat.reduceEqDiff, reduceIte, reduceCtorEq, Nat.reduceLeDiff, h4, evParts, fillV, V.cells, List.length_cons, List.length_nil, over]; rfl) ?_
          have hload : ∀ (i : Nat) (g : List Nat), signs[i]? = some g → (aw.fresh [.str [58, 45], .str [33, 61], .str [60, 61], .str [40], .str [41], .str [44], .str [46], .str [33], .str [61], .str [60]]).load aw.next (0 + i * 1) 1 = some [.str g] := by
            intro i g hg
            have hi : i < 10 := (List.getElem?_eq_some_iff.1 hg).1
            simp only [AW.load, AW.fresh, AW.new, T.get_putk, if_true, AW.alive, Nat.zero_add, Nat.mul_one]
            match i, hi with
            | 0, _ | 1, _ | 2, _ | 3, _ | 4, _ | 5, _ | 6, _ | 7, _ | 8, _ | 9, _ => simp [signs] at hg; subst hg; rfl
          have hext : Ext aw.next aw (aw.fresh [.str [58, 45], .str [33, 61], .str [60, 61], .str [40], .str [41], .str [44], .str [46], .str [33], .str [61], .str [60]]) := Ext.new (Nat.le_refl _) _
          generalize aw.fresh [.str [58, 45], .str [33, 61], .str [60, 61], .str [40], .str [41], .str [44], .str [46], .str [33], .str [61], .str [60]] = aw1 at hload hext
          refine WS_loop (fun n f w => ∃ i, f.get 0 = some (.str (c :: t)) ∧ f.get 28 = some (.slice aw.next 0 10 (.known 10)) ∧ f.get 29 = some (.int .i64 (Int.ofNat 10)) ∧ f.get 30 = some (.int .i64 (Int.ofNat i)) ∧ signs.find? (fun g => g.isPrefixOf (c :: t)) = (signs.drop i).find? (fun g => g.isPrefixOf (c :: t)) ∧ i ≤ 10 ∧ n = 10 - i ∧ w = aw1) ?_ 10 ⟨0, (by simp only [go_sem, eRun_exit, Nat.reduceAdd, Nat.reduceLT, Nat.reduceEqDiff, reduceIte, reduceCtorEq, Nat.reduceLeDiff] <;> rfl), (by simp only [go_sem, eRun_exit, Nat.reduceAdd, Nat.reduceLT, Nat.reduceEqDiff, reduceIte, reduceCtorEq, Nat.reduceLeDiff] <;> rfl), (by simp only [go_sem, eRun_exit, Nat.reduceAdd, Nat.reduceLT, Nat.reduceEqDiff, reduceIte, reduceCtorEq, Nat.reduceLeDiff] <;> rfl), (by simp only [go_sem, eRun_exit, Nat.reduceAdd, Nat.reduceLT, Nat.reduceEqDiff, reduceIte, reduceCtorEq, Nat.reduceLeDiff] <;> rfl), rfl, by omega, rfl, rfl⟩
          rintro n f w ⟨i, f0, f28, f29, f30, hf, hi, rfl, rfl⟩ ih
          by_cases hlt : i < 10
          · obtain ⟨g, hg⟩ : ∃ g, signs[i]? = some g := ⟨_, List.getElem?_eq_getElem (by simpa [signs] using hlt)⟩
            have hd : signs.drop i = g :: signs.drop (i + 1) := by
              have hl : i < signs.length := by simpa [signs] using hlt
              rw [List.drop_eq_getElem_cons hl]
              rw [List.getElem?_eq_getElem hl] at hg
              rw [Option.some.inj hg]
            have hld := hload i g hg
            refine WS_run 1000 (by simp only [go_sem, eRun_exit, Nat.reduceAdd, Nat.reduceLT, Nat.reduceEqDiff, reduceIte, reduceCtorEq, Nat.reduceLeDiff, k_lex_word_p4, k_lex_word_p3, f0, f28, f29, f30, hlt, hld]; rfl) ?_
            refine WS_call (by simp only [go_sem, eRun_exit, Nat.reduceAdd, Nat.reduceLT, Nat.reduceEqDiff, reduceIte, reduceCtorEq, Nat.reduceLeDiff]) (by simp only [go_sem, eRun_exit, Nat.reduceAdd, Nat.reduceLT, Nat.reduceEqDiff, reduceIte, reduceCtorEq, Nat.reduceLeDiff]; rfl) ?_
            refine prefix_ok C ?_
            cases hp : g.isPrefixOf (c :: t) with
            | true =>
              refine WS_run 1000 (by simp only [go_sem, eRun_exit, Nat.reduceAdd, Nat.reduceLT, Nat.reduceEqDiff, reduceIte, reduceCtorEq, Nat.reduceLeDiff]; rfl) ?_
              refine WS_ret ⟨_, by simp only [go_sem, eRun_exit, Nat.reduceAdd, Nat.reduceLT, Nat.reduceEqDiff, reduceIte, reduceCtorEq, Nat.reduceLeDiff, k_lex_word]; rfl, ?_⟩
              have := h w hext
              rw [hl, hf, hd, List.find?_cons_of_pos (by simpa using hp)] at this
              exact this
            | false =>
              have hw : IntKind.wrap .i64 (Int.ofNat i + 1) = Int.ofNat (i + 1) := wrap_succ (by omega)
              refine WS_run 1000 (by simp only [go_sem, eRun_exit, Nat.reduceAdd, Nat.reduceLT, Nat.reduceEqDiff, reduceIte, reduceCtorEq, Nat.reduceLeDiff, f30, hw]; rfl) ?_
              refine ih (10 - (i + 1)) _ _ (by omega) ⟨i + 1, (by simp only [go_sem, eRun_exit, Nat.reduceAdd, Nat.reduceLT, Nat.reduceEqDiff, reduceIte, reduceCtorEq, Nat.reduceLeDiff, f0] <;> rfl), (by simp only [go_sem, eRun_exit, Nat.reduceAdd, Nat.reduceLT, Nat.reduceEqDiff, reduceIte, reduceCtorEq, Nat.reduceLeDiff, f28] <;> rfl), (by simp only [go_sem, eRun_exit, Nat.reduceAdd, Nat.reduceLT, Nat.reduceEqDiff, reduceIte, reduceCtorEq, Nat.reduceLeDiff, f29] <;> rfl), (by simp only [go_sem, eRun_exit, Nat.reduceAdd, Nat.reduceLT, Nat.reduceEqDiff, reduceIte, reduceCtorEq, Nat.reduceLeDiff] <;> rfl), ?_, by omega, rfl, rfl⟩
              rw [hf, hd, List.find?_cons_of_neg (by simp [hp])]
          · refine WS_run 1000 (by simp only [go_sem, eRun_exit, Nat.reduceAdd, Nat.reduceLT, Nat.reduceEqDiff, reduceIte, reduceCtorEq, Nat.reduceLeDiff, k_lex_word_p4, f29, f30, hlt]; rfl) ?_
            refine WS_ret ⟨_, by simp only [go_sem, eRun_exit, Nat.reduceAdd, Nat.reduceLT, Nat.reduceEqDiff, reduceIte, reduceCtorEq, Nat.reduceLeDiff, k_lex_word]; rfl, ?_⟩
            have : i = 10 := by omega
            subst this
            have := h w hext
            rw [hl, hf] at this
            exact this
def wdCells (w : Wd) : List V := [.int .i64 (Int.ofNat w.kind), .str w.text, .int .i64 (Int.ofNat w.at')]
def wdsCells (l : List Wd) : List V := l.flatMap wdCells
theorem wdsCells_snoc (l : List Wd) (w : Wd) : wdsCells (l ++ [w]) = wdsCells l ++ wdCells w := by simp [wdsCells]
set_option maxRecDepth 10000 in
theorem front_ok (C : Codes tab) (E : ExtIdx tab) {s : List Nat} {aw : AW} {K : V → AW → Prop} (hb : ∀ x ∈ s, x < 256) (hs : s.length ≤ 1099511627776)
    (h : ∀ v aw', Own aw.next aw' v 3 (scan 0 s).1.length (wdsCells (scan 0 s).1) → Ext aw.next aw aw' → K (.tuple [v, .bool (scan 0 s).2]) aw') : WF tab n_lex_Front [.str s] aw K := by
  refine WF_of C.c_lex_Front rfl ?_
  have hs2 : s.length ≤ 4611686018427387904 := by omega
  obtain ⟨l, ok, hres⟩ : ∃ l ok, scan 0 s = (l, ok) := ⟨_, _, rfl⟩
  rw [hres] at h
  simp only at h
  refine WS_run 1000 (by simp only [go_sem, eRun_exit, Nat.reduceAdd, Nat.reduceLT, Nat.reduceEqDiff, reduceIte, reduceCtorEq, Nat.reduceLeDiff, k_lex_Front]; rfl) ?_
  refine WS_call (by simp only [go_sem, eRun_exit, Nat.reduceAdd, Nat.reduceLT, Nat.reduceEqDiff, reduceIte, reduceCtorEq, Nat.reduceLeDiff]) (by simp only [go_sem, eRun_exit, Nat.reduceAdd, Nat.reduceLT, Nat.reduceEqDiff, reduceIte, reduceCtorEq, Nat.reduceLeDiff]; rfl) ?_
  refine blank_ok C E hb hs2 ?_
  refine WS_run 1000 (by simp only [go_sem, eRun_exit, Nat.reduceAdd, Nat.reduceLT, Nat.reduceEqDiff, reduceIte, reduceCtorEq, Nat.reduceLeDiff]; rfl) ?_
  refine WS_loop (fun n f w => ∃ i v done, f.get 0 = some (.str s) ∧ f.get 5 = some (.int .i64 (Int.ofNat i)) ∧ f.get 4 = some v ∧ Own aw.next w v 3 done.length (wdsCells done) ∧ Ext aw.next aw w ∧ i ≤ s.length ∧ blk false (s.drop i) = 0 ∧
    (l, ok) = (done ++ (scan i (s.drop i)).1, (scan i (s.drop i)).2) ∧ done.length ≤ i ∧ n = s.length - i) ?_ (s.length - blk false s) ⟨blk false s, .nilslice, [], (by simp only [go_sem, eRun_exit, Nat.reduceAdd, Nat.reduceLT, Nat.reduceEqDiff, reduceIte, reduceCtorEq, Nat.reduceLeDiff] <;> rfl), (by simp only [go_sem, eRun_exit, Nat.reduceAdd, Nat.reduceLT, Nat.reduceEqDiff, reduceIte, reduceCtorEq, Nat.reduceLeDiff] <;> rfl), (by simp only [go_sem, eRun_exit, Nat.reduceAdd, Nat.reduceLT, Nat.reduceEqDiff, reduceIte, reduceCtorEq, Nat.reduceLeDiff] <;> rfl), .nil, Ext.refl aw, blk_le _ _, blk_drop _ _, ?_, by simp, rfl⟩
  · rintro n f w ⟨i, v, done, f0, f5, f4, hown, hext, hi, hbl, hsc, hdl, rfl⟩ ih
    by_cases hlt : i < s.length
    · obtain ⟨c, t, hd⟩ : ∃ c t, s.drop i = c :: t := ⟨_, _, List.drop_eq_getElem_cons hlt⟩
      have hle := lexWord_le (c :: t)
      have hlen : (c :: t).length = s.length - i := by rw [← hd]; simp
      rw [scan_eq, hbl, List.drop_zero, hd] at hsc
      simp only [Nat.add_zero] at hsc
      refine WS_run 1000 (by simp only [go_sem, eRun_exit, Nat.reduceAdd, Nat.reduceLT, Nat.reduceEqDiff, reduceIte, reduceCtorEq, Nat.reduceLeDiff, k_lex_Front_p1, k_lex_Front_p0, f0, f5, hlt, hi]; rfl) ?_
      refine WS_call (by simp only [go_sem, eRun_exit, Nat.reduceAdd, Nat.reduceLT, Nat.reduceEqDiff, reduceIte, reduceCtorEq, Nat.reduceLeDiff]) (by simp only [go_sem, eRun_exit, Nat.reduceAdd, Nat.reduceLT, Nat.reduceEqDiff, reduceIte, reduceCtorEq, Nat.reduceLeDiff]; rfl) ?_
      rw [hd]
      refine lex_word_ok (c := c) (t := t) C (by omega) ?_
      intro w1 hx1
      generalize hlw : lexWord (c :: t) = lw at hle hsc
      obtain ⟨k, m⟩ := lw
      simp only at hle hsc
      have hble : blk false (s.drop (i + m)) ≤ s.length - (i + m) := by have := blk_le false (s.drop (i + m)); simpa using this
      -- does it go on?
      by_cases hbad : m = 0 ∨ (k ≠ 4 ∧ 16 < m)
      · rw [if_pos hbad] at hsc
        have fin : K (.tuple [v, .bool false]) w1 := by
          have e1 : l = done := by simpa using (Prod.mk.inj hsc).1
          have e2 : ok = false := (Prod.mk.inj hsc).2
          have := h v w1 (by rw [e1]; exact hown.ext (Nat.le_refl _) hx1) (hext.trans (hx1.mono hext.le'))
          rwa [e2] at this
        by_cases hm : m = 0
        · refine WS_run 1000 (by simp only [go_sem, eRun_exit, Nat.reduceAdd, Nat.reduceLT, Nat.reduceEqDiff, reduceIte, reduceCtorEq, Nat.reduceLeDiff, f4, hm]; rfl) ?_
          refine WS_ret ⟨_, by simp only [go_sem, eRun_exit, Nat.reduceAdd, Nat.reduceLT, Nat.reduceEqDiff, reduceIte, reduceCtorEq, Nat.reduceLeDiff, k_lex_Front]; rfl, ?_⟩
          exact fin
        · obtain ⟨hk4, hm16⟩ := hbad.resolve_left hm
          refine WS_run 1000 (by simp only [go_sem, eRun_exit, Nat.reduceAdd, Nat.reduceLT, Nat.reduceEqDiff, reduceIte, reduceCtorEq, Nat.reduceLeDiff, f4, hm, hk4, hm16]; rfl) ?_
          refine WS_ret ⟨_, by simp only [go_sem, eRun_exit, Nat.reduceAdd, Nat.reduceLT, Nat.reduceEqDiff, reduceIte, reduceCtorEq, Nat.reduceLeDiff, k_lex_Front]; rfl, ?_⟩
          exact fin
      · rw [if_neg hbad] at hsc
        have hm : ¬ m = 0 := fun he => hbad (.inl he)
        have hw1 : IntKind.wrap .i64 (Int.ofNat i + Int.ofNat m) = Int.ofNat (i + m) := wrap_add (by omega)
        have hc1 : i + m ≤ s.length := by omega
        have hc2 : i ≤ i + m := Nat.le_add_right _ _
        have hown1 := hown.ext (Nat.le_refl _) hx1
        have hN1 : aw.next ≤ w1.next := Nat.le_trans hext.le' hx1.next
        obtain ⟨v2, w2, happ, hown2, hx2⟩ := hown1.push (bytes := 32) hN1 (by omega) (news := wdCells ⟨k, (s.drop i).take m, i⟩) rfl rfl (by omega) (by omega)
        have hel := elems_fresh (w := w1) (esz := 3) (n := 1) (c := .known 1) (cs := wdCells ⟨k, (s.drop i).take m, i⟩) (by omega) rfl
        simp only [wdCells] at happ hel
        by_cases h4 : k = 4
        · subst h4
          have h16 : True := trivial
          have h4 : True := trivial
          refine WS_run 1000 (by simp only [go_sem, eRun_exit, Nat.reduceAdd, Nat.reduceLT, Nat.reduceEqDiff, reduceIte, reduceCtorEq, Nat.reduceLeDiff, f0, f5, f4, hm, h4, h16, hw1, hc1, hc2, k_lex_Front_p1, evParts, fillV, V.cells, over, List.length_cons, List.length_nil, hel, happ]; rfl) ?_
          refine WS_call (by simp only [go_sem, eRun_exit, Nat.reduceAdd, Nat.reduceLT, Nat.reduceEqDiff, reduceIte, reduceCtorEq, Nat.reduceLeDiff]) (by simp only [go_sem, eRun_exit, Nat.reduceAdd, Nat.reduceLT, Nat.reduceEqDiff, reduceIte, reduceCtorEq, Nat.reduceLeDiff]; rfl) ?_
          refine blank_ok C E (fun x hx => hb x (List.mem_of_mem_drop hx)) (by simp only [List.length_drop]; omega) ?_
          have hw2 : IntKind.wrap .i64 (Int.ofNat (i + m) + Int.ofNat (blk false (s.drop (i + m)))) = Int.ofNat (i + m + blk false (s.drop (i + m))) := wrap_add (by omega)
          refine WS_run 1000 (by simp only [go_sem, eRun_exit, Nat.reduceAdd, Nat.reduceLT, Nat.reduceEqDiff, reduceIte, reduceCtorEq, Nat.reduceLeDiff, hw2]; rfl) ?_
          refine ih (s.length - (i + m + blk false (s.drop (i + m)))) _ _ (by omega) ⟨i + m + blk false (s.drop (i + m)), v2, done ++ [⟨4, (s.drop i).take m, i⟩], (by simp only [go_sem, eRun_exit, Nat.reduceAdd, Nat.reduceLT, Nat.reduceEqDiff, reduceIte, reduceCtorEq, Nat.reduceLeDiff, f0] <;> rfl), (by simp only [go_sem, eRun_exit, Nat.reduceAdd, Nat.reduceLT, Nat.reduceEqDiff, reduceIte, reduceCtorEq, Nat.reduceLeDiff] <;> rfl), (by simp only [go_sem, eRun_exit, Nat.reduceAdd, Nat.reduceLT, Nat.reduceEqDiff, reduceIte, reduceCtorEq, Nat.reduceLeDiff] <;> rfl), ?_, hext.trans ((hx1.mono hext.le').trans hx2), by omega, ?_, ?_, by simp only [List.length_append, List.length_cons, List.length_nil]; omega, rfl⟩
          · rw [wdsCells_snoc, List.length_append]; exact hown2
          · rw [← List.drop_drop]; exact blk_drop _ _
          · rw [hsc, hd]
            have hdr : (c :: t).drop m = s.drop (i + m) := by rw [← hd, List.drop_drop]
            rw [hdr, scan_skip (i + m) (s.drop (i + m)) (blk false (s.drop (i + m))) (by rw [blk_drop]; omega), List.drop_drop]
            simp
        · have h16 : ¬ 16 < m := fun hh => hbad (.inr ⟨h4, hh⟩)
          refine WS_run 1000 (by simp only [go_sem, eRun_exit, Nat.reduceAdd, Nat.reduceLT, Nat.reduceEqDiff, reduceIte, reduceCtorEq, Nat.reduceLeDiff, f0, f5, f4, hm, h4, h16, hw1, hc1, hc2, k_lex_Front_p1, evParts, fillV, V.cells, over, List.length_cons, List.length_nil, hel, happ]; rfl) ?_
          refine WS_call (by simp only [go_sem, eRun_exit, Nat.reduceAdd, Nat.reduceLT, Nat.reduceEqDiff, reduceIte, reduceCtorEq, Nat.reduceLeDiff]) (by simp only [go_sem, eRun_exit, Nat.reduceAdd, Nat.reduceLT, Nat.reduceEqDiff, reduceIte, reduceCtorEq, Nat.reduceLeDiff]; rfl) ?_
          refine blank_ok C E (fun x hx => hb x (List.mem_of_mem_drop hx)) (by simp only [List.length_drop]; omega) ?_
          have hw2 : IntKind.wrap .i64 (Int.ofNat (i + m) + Int.ofNat (blk false (s.drop (i + m)))) = Int.ofNat (i + m + blk false (s.drop (i + m))) := wrap_add (by omega)
          refine WS_run 1000 (by simp only [go_sem, eRun_exit, Nat.reduceAdd, Nat.reduceLT, Nat.reduceEqDiff, reduceIte, reduceCtorEq, Nat.reduceLeDiff, hw2]; rfl) ?_
          refine ih (s.length - (i + m + blk false (s.drop (i + m)))) _ _ (by omega) ⟨i + m + blk false (s.drop (i + m)), v2, done ++ [⟨k, (s.drop i).take m, i⟩], (by simp only [go_sem, eRun_exit, Nat.reduceAdd, Nat.reduceLT, Nat.reduceEqDiff, reduceIte, reduceCtorEq, Nat.reduceLeDiff, f0] <;> rfl), (by simp only [go_sem, eRun_exit, Nat.reduceAdd, Nat.reduceLT, Nat.reduceEqDiff, reduceIte, reduceCtorEq, Nat.reduceLeDiff] <;> rfl), (by simp only [go_sem, eRun_exit, Nat.reduceAdd, Nat.reduceLT, Nat.reduceEqDiff, reduceIte, reduceCtorEq, Nat.reduceLeDiff] <;> rfl), ?_, hext.trans ((hx1.mono hext.le').trans hx2), by omega, ?_, ?_, by simp only [List.length_append, List.length_cons, List.length_nil]; omega, rfl⟩
          · rw [wdsCells_snoc, List.length_append]; exact hown2
          · rw [← List.drop_drop]; exact blk_drop _ _
          · rw [hsc, hd]
            have hdr : (c :: t).drop m = s.drop (i + m) := by rw [← hd, List.drop_drop]
            rw [hdr, scan_skip (i + m) (s.drop (i + m)) (blk false (s.drop (i + m))) (by rw [blk_drop]; omega), List.drop_drop]
            simp
    · have : i = s.length := by omega
      subst this
      refine WS_run 1000 (by simp only [go_sem, eRun_exit, Nat.reduceAdd, Nat.reduceLT, Nat.reduceEqDiff, reduceIte, reduceCtorEq, Nat.reduceLeDiff, k_lex_Front_p1, f0, f5, f4, hlt]; rfl) ?_
      refine WS_ret ⟨_, by simp only [go_sem, eRun_exit, Nat.reduceAdd, Nat.reduceLT, Nat.reduceEqDiff, reduceIte, reduceCtorEq, Nat.reduceLeDiff, k_lex_Front]; rfl, ?_⟩
      rw [List.drop_length] at hsc
      have hz : scan s.length ([] : List Nat) = ([], true) := by rw [scan_eq]; rfl
      rw [hz] at hsc
      have e1 : l = done := by simpa using (Prod.mk.inj hsc).1
      have e2 : ok = true := (Prod.mk.inj hsc).2
      have := h v w (by rw [e1]; exact hown) hext
      rw [e2] at this
      exact this
  · rw [← hres, scan_skip 0 s (blk false s) (by rw [blk_drop]; omega)]; simp
end Go.Proofs.YtpbdojjfokelaaaDoor
set_option linter.unusedVariables false
set_option linter.unusedSimpArgs false
namespace Go.Proofs.YtpbdojjfokelaaaDoor
open Go.AE Delphi
variable {tab : Tab}
end Go.Proofs.YtpbdojjfokelaaaDoor
set_option linter.unusedVariables false
set_option linter.unusedSimpArgs false
namespace Go.Proofs.YtpbdojjfokelaaaDoor
open Go.AE Delphi
variable {tab : Tab}
end Go.Proofs.YtpbdojjfokelaaaDoor
set_option linter.unusedVariables false
set_option linter.unusedSimpArgs false
namespace Go.Proofs.YtpbdojjfokelaaaDoor
open Go.AE Delphi
variable {tab : Tab}
end Go.Proofs.YtpbdojjfokelaaaDoor
set_option linter.unusedVariables false
set_option linter.unusedSectionVars false
set_option linter.unusedSimpArgs false
namespace Go.AE
variable [Globs]
structure Frm (S : Nat → Prop) (w w' : AW) : Prop where
  next : w.next ≤ w'.next
  heap : ∀ b, b < w.next → ¬ S b → w'.heap.get b = w.heap.get b
  fams : ∀ b, b < w.next → ¬ S b → w'.fams.get b = w.fams.get b
theorem Frm.refl {S : Nat → Prop} (w : AW) : Frm S w w := ⟨Nat.le_refl _, fun _ _ _ => rfl, fun _ _ _ => rfl⟩
theorem Frm.trans {S T U : Nat → Prop} {a b c : AW} (h : Frm S a b) (h' : Frm T b c) (hs : ∀ x, x < a.next → S x → U x) (ht : ∀ x, x < a.next → T x → U x) : Frm U a c :=
  ⟨Nat.le_trans h.next h'.next, fun k hk hu => (h'.heap k (Nat.lt_of_lt_of_le hk h.next) fun x => hu (ht k hk x)).trans (h.heap k hk fun x => hu (hs k hk x)),
   fun k hk hu => (h'.fams k (Nat.lt_of_lt_of_le hk h.next) fun x => hu (ht k hk x)).trans (h.fams k hk fun x => hu (hs k hk x))⟩
theorem Frm.mono {S T : Nat → Prop} {a b : AW} (h : Frm S a b) (hs : ∀ x, x < a.next → S x → T x) : Frm T a b := ⟨h.next, fun k hk hu => h.heap k hk fun x => hu (hs k hk x), fun k hk hu => h.fams k hk fun x => hu (hs k hk x)⟩
theorem Frm.new {S : Nat → Prop} (w : AW) (x : Blk) : Frm S w (w.new x) := ⟨Nat.le_succ _, fun b hb _ => T.get_put_ne (by omega), fun _ _ _ => rfl⟩
theorem Ext.frm {N : Nat} {w w' : AW} (h : Ext N w w') {S : Nat → Prop} (hs : ∀ x, x < w.next → N ≤ x → S x) : Frm S w w' :=
  ⟨h.next, fun b hb hn => h.heap b (Nat.lt_of_not_le fun x => hn (hs b hb x)), fun b hb hn => h.fams b (Nat.lt_of_not_le fun x => hn (hs b hb x))⟩
theorem Frm.ext {N : Nat} {w w' : AW} {S : Nat → Prop} (h : Frm S w w') (hN : N ≤ w.next) (hs : ∀ x, S x → N ≤ x) : Ext N w w' :=
  ⟨hN, h.next, fun b hb => h.heap b (by omega) fun x => by have := hs b x; omega, fun b hb => h.fams b (by omega) fun x => by have := hs b x; omega⟩
def Grown (S S' : Nat → Prop) (w w' : AW) : Prop := ∀ b, S' b → b < w'.next ∧ (S b ∨ w.next ≤ b)
def Shr (S : Nat → Prop) (w : AW) (b : Nat) (sh : Share) : Prop :=
  sh = .own ∨ sh = .lax ∨ ∃ f F, sh = .fam f ∧ S f ∧ f < w.next ∧ w.fams.get f = some F ∧ F.last = b ∧ F.floor ≤ w.next ∧ w.alive b sh = true
theorem Shr.alive {S : Nat → Prop} {w : AW} {b : Nat} {sh : Share} (h : Shr S w b sh) : w.alive b sh = true := by
  rcases h with rfl | rfl | ⟨f, F, rfl, h1, h2, h3, h4, h6, h5⟩
  · rfl
  · rfl
  · exact h5
theorem Shr.mono {S S' : Nat → Prop} {w : AW} {b : Nat} {sh : Share} (h : Shr S w b sh) (hs : ∀ x, S x → S' x) : Shr S' w b sh := by
  rcases h with rfl | rfl | ⟨f, F, rfl, h1, h2⟩
  · exact .inl rfl
  · exact .inr (.inl rfl)
  · exact .inr (.inr ⟨f, F, rfl, hs _ h1, h2⟩)
theorem Shr.frm {S T : Nat → Prop} {w w' : AW} {b : Nat} {sh : Share} (h : Shr S w b sh) (hf : Frm T w w') (hd : ∀ x, S x → ¬ T x) : Shr S w' b sh := by
  rcases h with rfl | rfl | ⟨f, F, rfl, h1, h2, h3, h4, h6, h5⟩
  · exact .inl rfl
  · exact .inr (.inl rfl)
  · have e := hf.fams f h2 (hd f h1)
    refine .inr (.inr ⟨f, F, rfl, h1, Nat.lt_of_lt_of_le h2 hf.next, e.trans h3, h4, Nat.le_trans h6 hf.next, ?_⟩)
    simp only [AW.alive, h3, e.trans h3] at h5 ⊢
    exact h5
inductive Buf (S : Nat → Prop) (w : AW) : V → Nat → Nat → List V → Prop
  | nil {esz : Nat} : Buf S w .nilslice esz 0 []
  | blk {b n esz r : Nat} {cs rest : List V} {sh : Share} (hS : S b) (hb : b < w.next) (hx : w.heap.get b = some (.cells (cs ++ rest) sh)) (hl : cs.length = n * esz) (hr : rest.length = r * esz) (he : 0 < esz) (hn : 0 < n + r) (hs : Shr S w b sh) :
      Buf S w (.slice b 0 n (.upTo esz)) esz n cs
theorem Buf.mono {S S' : Nat → Prop} {w : AW} {v : V} {esz n : Nat} {cs : List V} (h : Buf S w v esz n cs) (hs : ∀ x, S x → S' x) : Buf S' w v esz n cs := by
  cases h with
  | nil => exact .nil
  | blk hS hb hx hl hr he hn hsh => exact .blk (hs _ hS) hb hx hl hr he hn (hsh.mono hs)
theorem Buf.frm {S T : Nat → Prop} {w w' : AW} {v : V} {esz n : Nat} {cs : List V} (h : Buf S w v esz n cs) (hf : Frm T w w') (hd : ∀ x, S x → ¬ T x) : Buf S w' v esz n cs := by
  cases h with
  | nil => exact .nil
  | blk hS hb hx hl hr he hn hsh => exact .blk hS (Nat.lt_of_lt_of_le hb hf.next) ((hf.heap _ hb (hd _ hS)).trans hx) hl hr he hn (hsh.frm hf hd)
theorem Buf.len {S : Nat → Prop} {w : AW} {v : V} {esz n : Nat} {cs : List V} (h : Buf S w v esz n cs) : cs.length = n * esz := by
  cases h with
  | nil => simp
  | blk hS hb hx hl hr he hn hsh => exact hl
theorem Buf.inv {S : Nat → Prop} {w : AW} {v : V} {esz n : Nat} {cs : List V} (h : Buf S w v esz n cs) : (v = .nilslice ∧ n = 0 ∧ cs = []) ∨ ∃ b, v = .slice b 0 n (.upTo esz) ∧ S b ∧ b < w.next := by
  cases h with
  | nil => exact .inl ⟨rfl, rfl, rfl⟩
  | blk hS hb hx hl hr he hn hsh => exact .inr ⟨_, rfl, hS, hb⟩
theorem Buf.load {S : Nat → Prop} {w : AW} {b n esz : Nat} {c : Cap} {cs : List V} (h : Buf S w (.slice b 0 n c) esz n cs) {o k : Nat} (hk : o + k ≤ cs.length) : w.load b o k = some ((cs.drop o).take k) := by
  cases h with
  | blk hS hb hx hl hr he hn hsh =>
    simp only [AW.load, hx, hsh.alive]
    rw [takeN_some _ _ (by simp; omega), List.drop_append_of_le_length (by omega), List.take_append_of_le_length (by simp; omega)]
theorem over_mid : ∀ (a b c d : List V), d.length = b.length → over (a ++ b ++ c) a.length d = some (a ++ d ++ c)
  | [], b, c, d, h => by
    have : ∀ (b d : List V), d.length = b.length → over (b ++ c) 0 d = some (d ++ c) := by
      intro b
      induction b with
      | nil => intro d h; cases d with
        | nil => cases hc : c <;> rfl
        | cons x d => simp at h
      | cons y b ih => intro d h; cases d with
        | nil => simp at h
        | cons x d => simp only [List.cons_append, over, ih d (by simpa using h)]
    simpa using this b d h
  | x :: a, b, c, d, h => by
    have := over_mid a b c d h
    simp only [List.cons_append, List.length_cons, over, this]
theorem turn_frm {S : Nat → Prop} {w : AW} {b : Nat} {l : List V} {sh : Share} (hS : S b) (hs : Shr S w b sh) : Frm S w (w.turn b (.cells l sh)) := by
  refine ⟨Nat.le_refl _, fun c hc hn => T.get_put_ne fun e => hn (e ▸ hS), fun c hc hn => ?_⟩
  rcases hs with rfl | rfl | ⟨f, F, rfl, h1, h2⟩
  · rfl
  · rfl
  · exact T.get_put_ne fun e => hn (e ▸ h1)
theorem turn_shr {S : Nat → Prop} {w : AW} {b : Nat} {l : List V} {sh : Share} (hb : b < w.next) (hs : Shr S w b sh) : Shr S (w.turn b (.cells l sh)) b sh := by
  rcases hs with rfl | rfl | ⟨f, F, rfl, h1, h2, h3⟩
  · exact .inl rfl
  · exact .inr (.inl rfl)
  · have e : (w.turn b (.cells l (.fam f))).fams.get f = some ⟨b, w.next, b⟩ := T.get_put_same
    exact .inr (.inr ⟨f, _, rfl, h1, h2, e, rfl, Nat.le_refl _, by simp only [AW.alive, e, Nat.beq_refl, Bool.true_or]⟩)
theorem store_shr {S : Nat → Prop} {w : AW} {b o : Nat} {l l' vs : List V} {sh : Share} (hx : w.heap.get b = some (.cells l sh)) (hs : Shr S w b sh) (h1 : allOne vs = true) (ho : over l o vs = some l') : w.store b o vs = some (w.turn b (.cells l' sh)) := by
  have ha := hs.alive
  rcases hs with rfl | rfl | ⟨f, F, rfl, _⟩ <;> simp only [AW.store, hx, ha, h1, ho]
theorem Buf.add {S : Nat → Prop} {w : AW} {v : V} {esz n bytes : Nat} {cs news : List V} (h : Buf S w v esz n cs) (he : 0 < esz) (hl : news.length = esz) (h1 : allOne news = true) (hb : (n + 1) * bytes ≤ 70368744177664) (hb' : n + 1 ≤ 70368744177664) :
    ∃ v' w' S', w.appendV esz bytes v 1 news = some (v', w') ∧ Buf S' w' v' esz (n + 1) (cs ++ news) ∧ Frm S w w' ∧ Grown S S' w w' := by
  have hcl := h.len
  cases h with
  | nil =>
    refine ⟨.slice w.next 0 1 (.upTo esz), w.fresh news, fun b => b = w.next, ?_, ?_, Frm.new _ _, ?_⟩
    · simp only [AW.appendV]; rw [if_pos ⟨by simpa using hb, by omega⟩]
    · exact .blk (r := 0) (rest := []) rfl (Nat.lt_succ_self _) (by rw [List.append_nil]; exact T.get_put_same) (by simpa using hl) (by simp) he (by omega) (.inl rfl)
    · rintro b rfl; exact ⟨Nat.lt_succ_self _, .inr (Nat.le_refl _)⟩
  | @blk b _ _ r _ rest sh hS hbw hx hlen hr he' hn hs =>
    have happ : w.appendV esz bytes (.slice b 0 n (.upTo esz)) 1 news = w.appendUp esz b 0 n 1 news := if_pos ⟨rfl, hb, hb', h1, he⟩
    rw [happ]
    cases r with
    | succ r =>
      -- room behind it
      have hne : Nat.beq (0 + n * esz) (cs ++ rest).length = false := by
        rw [natBeq, decide_eq_false_iff_not, List.length_append, hlen, hr, Nat.add_mul, Nat.one_mul]; omega
      have hfit : Nat.ble (0 + (n + 1) * esz) (cs ++ rest).length = true := by
        rw [natBle, decide_eq_true_eq, List.length_append, hlen, hr, Nat.add_mul, Nat.add_mul, Nat.one_mul]; omega
      obtain ⟨r1, r2, rfl, hr1⟩ : ∃ r1 r2, rest = r1 ++ r2 ∧ r1.length = esz := ⟨rest.take esz, rest.drop esz, (List.take_append_drop _ _).symm, by rw [List.length_take, hr, Nat.add_mul, Nat.one_mul]; omega⟩
      have hov : over (cs ++ (r1 ++ r2)) (0 + n * esz) news = some (cs ++ news ++ r2) := by
        rw [← List.append_assoc, Nat.zero_add, ← hlen]; exact over_mid _ _ _ _ (by omega)
      refine ⟨.slice b 0 (n + 1) (.upTo esz), w.turn b (.cells (cs ++ news ++ r2) sh), fun x => S x ∧ x < w.next, ?_, ?_, turn_frm hS hs, ?_⟩
      · simp only [AW.appendUp, hx, hne, hfit, store_shr hx hs h1 hov]
      · refine .blk (r := r) ⟨hS, hbw⟩ hbw T.get_put_same (by rw [List.length_append, hlen, hl, Nat.add_mul, Nat.one_mul]) ?_ he (by omega) ?_
        · rw [List.length_append, hr1, Nat.add_mul, Nat.one_mul] at hr; omega
        · rcases turn_shr (l := cs ++ news ++ r2) hbw hs with rfl | rfl | ⟨f, F, rfl, q1, q2, q3⟩
          · exact .inl rfl
          · exact .inr (.inl rfl)
          · exact .inr (.inr ⟨f, F, rfl, ⟨q1, q2⟩, q2, q3⟩)
      · rintro x ⟨q1, q2⟩; exact ⟨q2, .inl q1⟩
    | zero =>
      have hr0 : rest = [] := List.length_eq_zero_iff.1 (by simpa using hr)
      subst hr0
      rw [List.append_nil] at hx
      have hbeq : Nat.beq (0 + n * esz) cs.length = true := by rw [Nat.zero_add, hlen, Nat.beq_refl]
      have fam : ∀ (u : AW) (f : Nat) (F : Fam), w.next ≤ u.next → Frm S w u → u.heap.get b = some (.cells cs (.fam f)) → (S f ∨ w.next ≤ f) → f < u.next → b < u.next → u.fams.get f = some F → F.last = b → F.floor ≤ u.next → u.alive b (.fam f) = true →
          ∃ v' w' S', u.appendFam esz b 0 n 1 news = some (v', w') ∧ Buf S' w' v' esz (n + 1) (cs ++ news) ∧ Frm S w w' ∧ Grown S S' w w' := by
        intro u f F hle hfu hx hSf hfl hbu hF hlast hflo hal
        refine ⟨.slice u.next 0 (n + 1) (.upTo esz), u.grow b f F (cs.drop 0 ++ news), fun x => x = u.next ∨ x = f, ?_, ?_, ?_, ?_⟩
        · simp only [AW.appendFam, hx, hal, hF, hbeq]
        · have hg : (u.grow b f F (cs.drop 0 ++ news)).fams.get f = some ⟨F.keep, F.floor, u.next⟩ := by
            simp only [AW.grow, T.get_putk, if_true, hlast, Nat.beq_refl]
          refine .blk (r := 0) (rest := []) (sh := .fam f) (.inl rfl) (Nat.lt_succ_self _) ?_ ?_ (by simp) he (by omega) (.inr (.inr ⟨f, ⟨F.keep, F.floor, u.next⟩, rfl, .inr rfl, Nat.lt_succ_of_lt hfl, hg, rfl, Nat.le_succ_of_le hflo, ?_⟩))
          · simp only [AW.grow, T.get_putk, if_true, List.drop_zero, List.append_nil]
          · rw [List.length_append, hlen, hl, Nat.add_mul, Nat.one_mul]
          · simp only [AW.alive, hg, Bool.or_eq_true]
            exact .inr (Nat.ble_eq_true_of_le hflo)
        · refine hfu.trans (T := fun x => x = f ∨ u.next ≤ x) ⟨Nat.le_succ _, fun c hc hn => T.get_put_ne (by omega), fun c hc hn => T.get_put_ne fun e => hn (.inl e)⟩ (fun x hx h => h) ?_
          rintro x hx (rfl | h)
          · rcases hSf with h | h
            · exact h
            · omega
          · omega
        · rintro x (rfl | rfl)
          · exact ⟨Nat.lt_succ_self _, .inr hle⟩
          · exact ⟨Nat.lt_succ_of_lt hfl, hSf⟩
      have fnd : sh = .own ∨ sh = .lax → ∃ v' w' S', (w.found b cs).appendFam esz b 0 n 1 news = some (v', w') ∧ Buf S' w' v' esz (n + 1) (cs ++ news) ∧ Frm S w w' ∧ Grown S S' w w' := by
        intro _
        refine fam (w.found b cs) w.next ⟨b, w.next + 1, b⟩ (Nat.le_succ _) ⟨Nat.le_succ _, fun c hc hn => T.get_put_ne fun e => hn (e ▸ hS), fun c hc hn => T.get_put_ne (by omega)⟩ T.get_put_same (.inr (Nat.le_refl _)) (Nat.lt_succ_self _) (Nat.lt_succ_of_lt hbw) T.get_put_same rfl (Nat.le_refl _) ?_
        simp only [AW.alive, AW.found, T.get_putk, if_true, Nat.beq_refl, Bool.true_or]
      simp only [AW.appendUp, hx, hbeq, List.append_nil]
      rcases hs with rfl | rfl | ⟨f, F, rfl, g1, g2, g3, g4, g6, g5⟩
      · exact fnd (.inl rfl)
      · exact fnd (.inr rfl)
      · exact fam w f F (Nat.le_refl _) (Frm.refl _) hx (.inl g1) g2 hbw g3 g4 g6 g5
theorem Buf.push {S : Nat → Prop} {w : AW} {v : V} {esz n bytes : Nat} {cs news : List V} (h : Buf S w v esz n cs) (hS : ∀ b, S b → b < w.next) (he : 0 < esz) (hl : news.length = esz) (h1 : allOne news = true) (hb : (n + 1) * bytes ≤ 70368744177664) (hb' : n + 1 ≤ 70368744177664) :
    ∃ v' w' S', (w.fresh news).appendV esz bytes v 1 news = some (v', w') ∧ Buf S' w' v' esz (n + 1) (cs ++ news) ∧ Frm S w w' ∧ Grown S S' w w' := by
  have hx : Frm (fun _ => False) w (w.fresh news) := Frm.new _ _
  obtain ⟨v', w', S', h2, h3, h4, h5⟩ := (h.frm hx fun _ _ h => h).add (news := news) (bytes := bytes) he hl h1 hb hb'
  refine ⟨v', w', S', h2, h3, hx.trans h4 (fun _ _ h => h.elim) fun _ _ h => h, fun b hb => ?_⟩
  obtain ⟨q1, q2⟩ := h5 b hb
  exact ⟨q1, q2.imp id fun h => Nat.le_trans hx.next h⟩
theorem Buf.insert {S : Nat → Prop} {w : AW} {b n bytes i bv : Nat} {cs : List V} {x : V} (h : Buf S w (.slice b 0 n (.upTo 1)) 1 n cs) (hi : i < n) (hv : w.heap.get bv = some (.cells [x] .own)) (hne : bv ≠ b) (h1 : x.one = true) (h2 : allOne cs = true) (hb : (n + 1) * bytes ≤ 70368744177664) (hb' : n + 1 ≤ 70368744177664) {k : Nat} :
    ∃ v' w' S', insPrim bytes [.slice b 0 n (.upTo 1), .int .i64 (.ofNat i), .slice bv 0 1 (.known k)] w = some (v', w') ∧ Buf S' w' v' 1 (n + 1) (cs.take i ++ [x] ++ cs.drop i) ∧ Frm S w w' ∧ Grown S S' w w' := by
  have hcl := h.len
  rw [Nat.mul_one] at hcl
  have hld := h.load (o := 0) (k := n) (by omega)
  rw [List.drop_zero, List.take_of_length_le (by omega)] at hld
  have hvl : w.load bv 0 1 = some [x] := by simp only [AW.load, hv, AW.alive, List.drop_zero, takeN]
  have hbv : Nat.beq bv b = false := by rw [natBeq, decide_eq_false hne]
  have hone : allOne [x] = true := by simp [allOne, h1]
  cases h with
  | @blk _ _ _ r _ rest sh hS hbw hx hlen hr he' hn hs =>
    have fam : ∀ (u : AW) (f : Nat), w.next ≤ u.next → Frm S w u → u.heap.get b = some (.cells (cs ++ rest) (.fam f)) → (S f ∨ w.next ≤ f) → f < u.next →
        ∃ v' w' S', u.insFam b n 1 (cs.take i ++ [x] ++ cs.drop i) = some (v', w') ∧ Buf S' w' v' 1 (n + 1) (cs.take i ++ [x] ++ cs.drop i) ∧ Frm S w w' ∧ Grown S S' w w' := by
      intro u f hle hfu hx hSf hfl
      refine ⟨.slice u.next 0 (n + 1) (.upTo 1), u.reborn f (cs.take i ++ [x] ++ cs.drop i), fun x => x = u.next, ?_, ?_, ?_, ?_⟩
      · simp only [AW.insFam, hx]
      · refine .blk (r := 0) (rest := []) (sh := .lax) rfl (Nat.lt_succ_self _) (by rw [List.append_nil]; exact T.get_put_same) ?_ (by simp) (by omega) (by omega) (.inr (.inl rfl))
        simp only [List.length_append, List.length_take, List.length_drop, List.length_cons, List.length_nil]; omega
      · refine hfu.trans (T := fun x => x = f ∨ u.next ≤ x) ⟨Nat.le_succ _, fun c hc hn => T.get_put_ne (by omega), fun c hc hn => T.get_put_ne fun e => hn (.inl e)⟩ (fun x hx h => h) ?_
        rintro x hx (rfl | h)
        · rcases hSf with h | h
          · exact h
          · omega
        · omega
      · rintro x rfl
        exact ⟨Nat.lt_succ_self _, .inr hle⟩
    have fnd : (w.found b (cs ++ rest)).alive b (.fam w.next) = true ∧ ∃ v' w' S', (w.found b (cs ++ rest)).insFam b n 1 (cs.take i ++ [x] ++ cs.drop i) = some (v', w') ∧ Buf S' w' v' 1 (n + 1) (cs.take i ++ [x] ++ cs.drop i) ∧ Frm S w w' ∧ Grown S S' w w' :=
      ⟨by simp only [AW.alive, AW.found, T.get_putk, if_true, Nat.beq_refl, Bool.true_or],
        fam _ w.next (Nat.le_succ _) ⟨Nat.le_succ _, fun c hc hn => T.get_put_ne fun e => hn (e ▸ hS), fun c hc hn => T.get_put_ne (by omega)⟩ T.get_put_same (.inr (Nat.le_refl _)) (Nat.lt_succ_self _)⟩
    have e1 : Nat.blt i n = true := by rw [natBlt, decide_eq_true hi]
    have e2 : Nat.blt 0 1 = true := rfl
    have e3 : Nat.ble ((n + 1) * bytes) 70368744177664 = true := Nat.ble_eq_true_of_le hb
    have e4 : Nat.ble (n + 1) 70368744177664 = true := Nat.ble_eq_true_of_le hb'
    rcases hs with rfl | rfl | ⟨f, F, rfl, g1, g2, g3, g4, g6, g5⟩
    · simp only [insPrim, e1, e2, e3, e4, hbv, hv, hvl, hld, hone, h2, hx, fnd.1]; exact fnd.2
    · simp only [insPrim, e1, e2, e3, e4, hbv, hv, hvl, hld, hone, h2, hx, fnd.1]; exact fnd.2
    · simp only [insPrim, e1, e2, e3, e4, hbv, hv, hvl, hld, hone, h2, hx]; exact fam w f (Nat.le_refl _) (Frm.refl _) hx (.inl g1) g2
end Go.AE
set_option linter.unusedVariables false
set_option linter.unusedSectionVars false
set_option linter.unusedSimpArgs false
namespace Go.AE
variable [Globs]
section
variable {tab : Tab}
def mkStp (fr : Fr) (hide : List Nat) (v : V) (a b : AW) : Stp := ⟨hideL fr hide, v, a, b⟩
theorem mkStp_fe {fr : Fr} {hide : List Nat} {v : V} {a b : AW} : (mkStp fr hide v a b).fe = hideL fr hide := rfl
theorem mkStp_v {fr : Fr} {hide : List Nat} {v : V} {a b : AW} : (mkStp fr hide v a b).v = v := rfl
theorem mkStp_0 {fr : Fr} {hide : List Nat} {v : V} {a b : AW} : (mkStp fr hide v a b).aw0 = a := rfl
theorem mkStp_1 {fr : Fr} {hide : List Nat} {v : V} {a b : AW} : (mkStp fr hide v a b).aw1 = b := rfl
theorem pass_at {l : List DOper} {fr : Fr} {aw : AW} {st : List Stp} {fr' : Fr} {aw' : AW} (h : Pass tab l fr aw st fr' aw') : ∀ {i : Nat} {d : DOper} {s : Stp}, l[i]? = some d → st[i]? = some s → OneAt d s := by
  induction l generalizing fr aw st with
  | nil => intro i d s hd; simp at hd
  | cons x l ih =>
    intro i d s hd hs
    cases h
    rename_i h1 h2
    cases i with
    | succ i => exact ih h2 (by simpa using hd) (by simpa using hs)
    | zero =>
      simp at hd hs
      subst hd; subst hs
      cases h1 with
      | pass hw => exact .inl hw
      | val hw ha => exact .inr ⟨hw, fun _ => ⟨_, ha⟩⟩
      | skip hw ha => exact .inr ⟨hw, fun hq => by obtain ⟨_, v, h⟩ := quiet_ok hq ha; cases h⟩
      | call hw ha hc => exact .inr ⟨hw, fun hq => by obtain ⟨_, v, h⟩ := quiet_ok hq ha; cases h⟩
      | ext hw ha hc => exact .inr ⟨hw, fun hq => by obtain ⟨_, v, h⟩ := quiet_ok hq ha; cases h⟩
theorem drawnOK_of {l : List DOper} {fr : Fr} {aw : AW} {st : List Stp} {fr' : Fr} {aw' : AW} (h : Pass tab l fr aw st fr' aw') (hc : chkAll l st (pairs l)) : drawnOK l st = true := drawnOK_at h.len (fun i d s => pass_at h) hc
def WDs (tab : Tab) (l : List DOper) (fr : Fr) (aw : AW) (acc : List Stp) (K : List Stp → Fr → AW → Prop) : Prop := WD tab l fr aw fun st f a => K (acc.reverse ++ st) f a
theorem WDs_nil {fr : Fr} {aw : AW} {acc : List Stp} {K : List Stp → Fr → AW → Prop} (h : K acc.reverse fr aw) : WDs tab [] fr aw acc K := by
  unfold WDs; rw [WD_nil, List.append_nil]; exact h
theorem WDs_acc {l : List DOper} {fr : Fr} {aw : AW} {acc : List Stp} {s : Stp} {K : List Stp → Fr → AW → Prop} (h : WDs tab l fr aw (s :: acc) K) : WD tab l fr aw (fun st f a => K (acc.reverse ++ s :: st) f a) := by
  unfold WDs at h
  simpa using h
theorem WDs_val {d : DOper} {l : List DOper} {fr : Fr} {aw aw1 : AW} {acc : List Stp} {v : V} {K : List Stp → Fr → AW → Prop} (hw : wanted (hideL fr d.hide) d.op.guard = some true) (ha : aop d.op.op (hideL fr d.hide) aw = some (.val v, aw1))
    (h : WDs tab l (putO fr d.op.dst v) aw1 (mkStp fr d.hide v aw aw1 :: acc) K) : WDs tab (d :: l) fr aw acc K := by
  unfold WDs; rw [WD_cons, W1_eq, hw, ha]; exact WDs_acc h
theorem WDs_eff {d : DOper} {l : List DOper} {fr : Fr} {aw aw1 : AW} {acc : List Stp} {K : List Stp → Fr → AW → Prop} (hw : wanted (hideL fr d.hide) d.op.guard = some true) (ha : aop d.op.op (hideL fr d.hide) aw = some (.skip, aw1))
    (h : WDs tab l (putO fr d.op.dst .undef) aw1 (mkStp fr d.hide .undef aw aw1 :: acc) K) : WDs tab (d :: l) fr aw acc K := by
  unfold WDs; rw [WD_cons, W1_eq, hw, ha]; exact WDs_acc h
theorem WDs_pass {d : DOper} {l : List DOper} {fr : Fr} {aw : AW} {acc : List Stp} {K : List Stp → Fr → AW → Prop} (hw : wanted (hideL fr d.hide) d.op.guard = some false)
    (h : WDs tab l (putO fr d.op.dst .undef) aw (mkStp fr d.hide .undef aw aw :: acc) K) : WDs tab (d :: l) fr aw acc K := by
  unfold WDs; rw [WD_cons, W1_eq, hw]; exact WDs_acc h
theorem WDs_call {d : DOper} {l : List DOper} {fr : Fr} {aw aw1 : AW} {acc : List Stp} {f : Nat} {args : List V} {K : List Stp → Fr → AW → Prop} (hw : wanted (hideL fr d.hide) d.op.guard = some true) (ha : aop d.op.op (hideL fr d.hide) aw = some (.call f args, aw1))
    (h : WF tab f args aw1 (fun v a => WDs tab l (putO fr d.op.dst v) a (mkStp fr d.hide v aw a :: acc) K)) : WDs tab (d :: l) fr aw acc K := by
  unfold WDs; rw [WD_cons, W1_eq, hw, ha]
  exact .inl (h.mono fun v a h => WDs_acc h)
theorem WS_drawn {l : List DOper} {s : List SI} {fr : Fr} {aw : AW} {Q : Fr → AW → Prop} (h : WDs tab l fr aw [] (fun st f a => chkAll l st (pairs l) ∧ WS tab s f a Q)) : WS tab (.code (.drawn l) :: s) fr aw Q := by
  show WX tab (.drawn l) fr aw _
  rw [WX_drawn]
  obtain ⟨st, f, a, h1, h2, h3⟩ := h
  exact ⟨st, f, a, h1, drawnOK_of h1 h2, h3⟩
inductive DS where
  | on (l : List DOper) (fr : Fr) (aw : AW) (acc : List Stp)
def dRun0 : Nat → List DOper → Fr → AW → List Stp → DS
  | 0, l, fr, aw, acc => .on l fr aw acc
  | n + 1, [], fr, aw, acc => .on [] fr aw acc
  | n + 1, d :: l, fr, aw, acc => match wanted (hideL fr d.hide) d.op.guard with
    | some true => match aop d.op.op (hideL fr d.hide) aw with
      | some (.val v, aw1) => dRun0 n l (putO fr d.op.dst v) aw1 (mkStp fr d.hide v aw aw1 :: acc)
      | some (.skip, aw1) => dRun0 n l (putO fr d.op.dst .undef) aw1 (mkStp fr d.hide .undef aw aw1 :: acc)
      | _ => .on (d :: l) fr aw acc
    | some false => dRun0 n l (putO fr d.op.dst .undef) aw (mkStp fr d.hide .undef aw aw :: acc)
    | none => .on (d :: l) fr aw acc
theorem dRun0_ok {K : List Stp → Fr → AW → Prop} : ∀ (n : Nat) {l l' : List DOper} {fr fr' : Fr} {aw aw' : AW} {acc acc' : List Stp}, dRun0 n l fr aw acc = .on l' fr' aw' acc' → WDs tab l' fr' aw' acc' K → WDs tab l fr aw acc K
  | 0, l, l', fr, fr', aw, aw', acc, acc', h, hw => by cases h; exact hw
  | n + 1, [], l', fr, fr', aw, aw', acc, acc', h, hw => by cases h; exact hw
  | n + 1, d :: l, l', fr, fr', aw, aw', acc, acc', h, hw => by
    simp only [dRun0] at h
    split at h
    · rename_i h1
      split at h
      · rename_i h2; exact WDs_val h1 h2 (dRun0_ok n h hw)
      · rename_i h2; exact WDs_eff h1 h2 (dRun0_ok n h hw)
      · cases h; exact hw
    · rename_i h1; exact WDs_pass h1 (dRun0_ok n h hw)
    · cases h; exact hw
theorem dRunE_ex : ∃ f : Nat → List DOper → Fr → AW → List Stp → DS, f = dRun0 := ⟨_, rfl⟩
@[irreducible] noncomputable def dRunE : Nat → List DOper → Fr → AW → List Stp → DS := Classical.choose dRunE_ex
theorem dRunE_eq : dRunE = dRun0 := by unfold dRunE; exact Classical.choose_spec dRunE_ex
theorem WDs_run {K : List Stp → Fr → AW → Prop} (n : Nat) {l l' : List DOper} {fr fr' : Fr} {aw aw' : AW} {acc acc' : List Stp} (h : dRunE n l fr aw acc = .on l' fr' aw' acc') (hw : WDs tab l' fr' aw' acc' K) : WDs tab l fr aw acc K := by
  rw [dRunE_eq] at h; exact dRun0_ok n h hw
theorem dRunE_nil {n : Nat} {fr : Fr} {aw : AW} {acc : List Stp} : dRunE (n + 1) [] fr aw acc = .on [] fr aw acc := by rw [dRunE_eq]; rfl
theorem dRunE_cons {n : Nat} {d : DOper} {l : List DOper} {fr : Fr} {aw : AW} {acc : List Stp} : dRunE (n + 1) (d :: l) fr aw acc = match wanted (hideL fr d.hide) d.op.guard with
    | some true => match aop d.op.op (hideL fr d.hide) aw with
      | some (.val v, aw1) => dRunE n l (putO fr d.op.dst v) aw1 (mkStp fr d.hide v aw aw1 :: acc)
      | some (.skip, aw1) => dRunE n l (putO fr d.op.dst .undef) aw1 (mkStp fr d.hide .undef aw aw1 :: acc)
      | _ => .on (d :: l) fr aw acc
    | some false => dRunE n l (putO fr d.op.dst .undef) aw (mkStp fr d.hide .undef aw aw :: acc)
    | none => .on (d :: l) fr aw acc := by rw [dRunE_eq]; rfl
end
theorem over_cell : ∀ (l : List V) (i : Nat) (v : V), i < l.length → over l i [v] = some (l.set i v)
  | [], i, v, h => by simp at h
  | x :: l, 0, v, h => by simp [over]
  | x :: l, i + 1, v, h => by simp only [over, over_cell l i v (by simpa using h), List.set_cons_succ]
theorem store_cell {w : AW} {b i : Nat} {l : List V} {v : V} (hx : w.heap.get b = some (.cells l .own)) (hi : i < l.length) (hv : v.one = true) : w.store b i [v] = some (w.turn b (.cells (l.set i v) .own)) := by
  simp only [AW.store, hx, AW.alive, allOne, hv, over_cell l i v hi]
theorem cells_int {k : IntKind} {n : Int} : (V.int k n).cells = [.int k n] := rfl
theorem cells_bool {b : Bool} : (V.bool b).cells = [.bool b] := rfl
theorem cells_str {l : List Nat} : (V.str l).cells = [.str l] := rfl
theorem cells_agg {l : List V} : (V.agg l).cells = l := rfl
theorem cells_slice {b o n : Nat} {c : Cap} : (V.slice b o n c).cells = [.slice b o n c] := rfl
theorem cells_nilslice : V.nilslice.cells = [.nilslice] := rfl
theorem cells_ptr {b o : Nat} : (V.ptr b o).cells = [.ptr b o] := rfl
theorem cells_nilptr : V.nilptr.cells = [.nilptr] := rfl
theorem ne_ff : (false != false) = false := rfl
theorem ne_ft : (false != true) = true := rfl
theorem ne_tf : (true != false) = true := rfl
theorem ne_tt : (true != true) = false := rfl
attribute [go_sem] dRunE_nil dRunE_cons ne_ff ne_ft ne_tf ne_tt cells_int cells_bool cells_str cells_agg cells_slice cells_nilslice cells_ptr cells_nilptr
end Go.AE
set_option linter.unusedVariables false
set_option linter.unusedSectionVars false
set_option linter.unusedSimpArgs false
namespace Go.AE
variable [Globs]
end Go.AE
set_option linter.unusedVariables false
set_option linter.unusedSectionVars false
set_option linter.unusedSimpArgs false
namespace Go.AE
variable [Globs]
theorem resOne_nil : resOne [] = .tuple [] := rfl
attribute [go_sem] resOne_nil Nat.add_zero
theorem WS_loopJ {tab : Tab} {id : Nat} {b : ACode} {s : List SI} {Q : Fr → AW → Prop} (I : Nat → Fr → AW → Prop) (J : Fr → AW → Prop)
    (step : ∀ n f w, I n f w → (∀ n' f' w', n' < n → I n' f' w' → WS tab (.code (.loop b) :: .endB id :: s) f' w' Q) → (∀ s' f' w', J f' w' → popTo id s' = some s → WS tab (.code (.exit id) :: s') f' w' Q) → WS tab (.code b :: .code (.loop b) :: .endB id :: s) f w Q)
    (after : ∀ f w, J f w → WS tab s f w Q) (n : Nat) {fr : Fr} {aw : AW} (h : I n fr aw) : WS tab (.code (.loop b) :: .endB id :: s) fr aw Q :=
  WS_loop I (fun n f w hI ih => step n f w hI ih fun s' f' w' hJ hp => WS_exit hp (after f' w' hJ)) n h
def Al (T : Nat → Prop) (w : AW) (b : Nat) (sh : Share) : Prop :=
  sh = .own ∨ sh = .lax ∨ sh = .ro ∨ ∃ f F, sh = .fam f ∧ T f ∧ f < w.next ∧ w.fams.get f = some F ∧ w.alive b sh = true
theorem Al.alive {T : Nat → Prop} {w : AW} {b : Nat} {sh : Share} (h : Al T w b sh) : w.alive b sh = true := by
  rcases h with rfl | rfl | rfl | ⟨f, F, rfl, h1, h2, h3, h4⟩
  · rfl
  · rfl
  · rfl
  · exact h4
theorem Al.frm {T S : Nat → Prop} {w w' : AW} {b : Nat} {sh : Share} (h : Al T w b sh) (hf : Frm S w w') (hd : ∀ x, T x → ¬ S x) : Al T w' b sh := by
  rcases h with rfl | rfl | rfl | ⟨f, F, rfl, h1, h2, h3, h4⟩
  · exact .inl rfl
  · exact .inr (.inl rfl)
  · exact .inr (.inr (.inl rfl))
  · have e := hf.fams f h2 (hd f h1)
    refine .inr (.inr (.inr ⟨f, F, rfl, h1, Nat.lt_of_lt_of_le h2 hf.next, e.trans h3, ?_⟩))
    simp only [AW.alive, h3, e.trans h3] at h4 ⊢
    exact h4
theorem Al.mono {T T' : Nat → Prop} {w : AW} {b : Nat} {sh : Share} (h : Al T w b sh) (ht : ∀ x, T x → T' x) : Al T' w b sh := by
  rcases h with rfl | rfl | rfl | ⟨f, F, rfl, h1, h2⟩
  · exact .inl rfl
  · exact .inr (.inl rfl)
  · exact .inr (.inr (.inl rfl))
  · exact .inr (.inr (.inr ⟨f, F, rfl, ht f h1, h2⟩))
def CapFit (esz n : Nat) : Cap → Prop
  | .known k => n ≤ k
  | .upTo z => z = esz ∨ n = 0
inductive Rd (T : Nat → Prop) (w : AW) : V → Nat → Nat → List V → Prop
  | nil {esz : Nat} : Rd T w .nilslice esz 0 []
  | blk {b o n esz : Nat} {c : Cap} {l cs : List V} {sh : Share} (hT : T b) (hb : b < w.next) (hx : w.heap.get b = some (.cells l sh)) (ha : Al T w b sh) (hl : o + n * esz ≤ l.length) (hcs : cs = (l.drop o).take (n * esz)) (hc : CapFit esz n c) : Rd T w (.slice b o n c) esz n cs
theorem Rd.len {T : Nat → Prop} {w : AW} {v : V} {esz n : Nat} {cs : List V} (h : Rd T w v esz n cs) : cs.length = n * esz := by
  cases h with
  | nil => simp
  | blk hT hb hx ha hl hcs hc => rw [hcs, List.length_take, List.length_drop]; omega
theorem Rd.frm {T S : Nat → Prop} {w w' : AW} {v : V} {esz n : Nat} {cs : List V} (h : Rd T w v esz n cs) (hf : Frm S w w') (hd : ∀ x, T x → ¬ S x) : Rd T w' v esz n cs := by
  cases h with
  | nil => exact .nil
  | blk hT hb hx ha hl hcs hc => exact .blk hT (Nat.lt_of_lt_of_le hb hf.next) ((hf.heap _ hb (hd _ hT)).trans hx) (ha.frm hf hd) hl hcs hc
theorem Rd.mono {T T' : Nat → Prop} {w : AW} {v : V} {esz n : Nat} {cs : List V} (h : Rd T w v esz n cs) (ht : ∀ x, T x → T' x) : Rd T' w v esz n cs := by
  cases h with
  | nil => exact .nil
  | blk hT hb hx ha hl hcs hc => exact .blk (ht _ hT) hb hx (ha.mono ht) hl hcs hc
structure RdB (T : Nat → Prop) (w : AW) (b o n esz : Nat) (c : Cap) (cs : List V) : Prop where
  own : T b
  lt : b < w.next
  fit : CapFit esz n c
  load : ∀ i k, i + k ≤ n * esz → w.load b (o + i) k = some ((cs.drop i).take k)
  get : ∃ l sh, w.heap.get b = some (.cells l sh) ∧ w.alive b sh = true
theorem Rd.inv {T : Nat → Prop} {w : AW} {v : V} {esz n : Nat} {cs : List V} (h : Rd T w v esz n cs) : (v = .nilslice ∧ n = 0 ∧ cs = []) ∨ ∃ b o c, v = .slice b o n c ∧ RdB T w b o n esz c cs := by
  cases h with
  | nil => exact .inl ⟨rfl, rfl, rfl⟩
  | @blk b o _ _ c l _ sh hT hb hx ha hl hcs hc =>
    refine .inr ⟨b, o, c, rfl, ⟨hT, hb, hc, fun i k hik => ?_, l, sh, hx, ha.alive⟩⟩
    simp only [AW.load, hx, ha.alive]
    rw [takeN_some _ _ (by simp; omega), hcs]
    congr 1
    rw [List.drop_take, List.take_take, List.drop_drop, Nat.min_eq_left (by omega)]
theorem RdB.cell {T : Nat → Prop} {w : AW} {b o n esz : Nat} {c : Cap} {cs : List V} (h : RdB T w b o n esz c cs) {i : Nat} {x : V} (hi : i < n * esz) (hx : cs[i]? = some x) : w.load b (o + i) 1 = some [x] := by
  rw [h.load i 1 (by omega)]
  have hlt : i < cs.length := (List.getElem?_eq_some_iff.1 hx).1
  rw [List.drop_eq_getElem_cons hlt]
  rw [List.getElem?_eq_getElem hlt] at hx
  rw [Option.some.inj hx]; rfl
theorem flat_at {α : Type} {r : α → List V → Prop} {sz : Nat} (hsz : ∀ a xs, r a xs → xs.length = sz) : ∀ {l : List α} {xss : List (List V)}, All2 r l xss → ∀ {i : Nat} {a : α}, l[i]? = some a → ∃ xs, r a xs ∧ (xss.flatten.drop (i * sz)).take sz = xs
  | [], _, .nil, i, a, h => by simp at h
  | x :: l, y :: m, .cons h1 h2, 0, a, h => by
    simp at h; subst h
    refine ⟨y, h1, ?_⟩
    rw [Nat.zero_mul, List.drop_zero, List.flatten_cons, ← hsz _ _ h1, List.take_left']
    rfl
  | x :: l, y :: m, .cons h1 h2, i + 1, a, h => by
    obtain ⟨xs, q1, q2⟩ := flat_at hsz h2 (i := i) (a := a) (by simpa using h)
    refine ⟨xs, q1, ?_⟩
    have hy := hsz _ _ h1
    rw [List.flatten_cons, Nat.add_mul, Nat.one_mul, Nat.add_comm (i * sz), ← List.drop_drop, ← hy, List.drop_left' rfl, hy]
    exact q2
def RdL {α : Type} (r : AW → α → List V → Prop) (T : Nat → Prop) (w : AW) (v : V) (esz : Nat) (l : List α) : Prop := ∃ xss, Rd T w v esz l.length xss.flatten ∧ All2 (r w) l xss
theorem RdL.inv {α : Type} {r : AW → α → List V → Prop} {T : Nat → Prop} {w : AW} {v : V} {esz : Nat} {l : List α} (h : RdL r T w v esz l) (hsz : ∀ a xs, r w a xs → xs.length = esz) :
    (v = .nilslice ∧ l = []) ∨ ∃ b o c, v = .slice b o l.length c ∧ T b ∧ b < w.next ∧ CapFit esz l.length c ∧ ∀ i a, l[i]? = some a → ∃ xs, r w a xs ∧ ∀ j k, j + k ≤ esz → w.load b (o + i * esz + j) k = some ((xs.drop j).take k) := by
  obtain ⟨xss, h1, h2⟩ := h
  rcases h1.inv with ⟨q1, q2, q3⟩ | ⟨b, o, c, rfl, hB⟩
  · exact .inl ⟨q1, List.length_eq_zero_iff.1 q2⟩
  · refine .inr ⟨b, o, c, rfl, hB.own, hB.lt, hB.fit, fun i a hi => ?_⟩
    obtain ⟨xs, q1, q2⟩ := flat_at hsz h2 hi
    refine ⟨xs, q1, fun j k hjk => ?_⟩
    have hlt : i < l.length := (List.getElem?_eq_some_iff.1 hi).1
    have hle : (i + 1) * esz ≤ l.length * esz := Nat.mul_le_mul_right _ hlt
    rw [Nat.add_mul, Nat.one_mul] at hle
    rw [Nat.add_assoc, hB.load (i * esz + j) k (by omega), ← q2, List.drop_take, List.take_take, Nat.min_eq_left (by omega), List.drop_drop]
theorem RdL.frm {α : Type} {r : AW → α → List V → Prop} {T S : Nat → Prop} {w w' : AW} {v : V} {esz : Nat} {l : List α} (h : RdL r T w v esz l) (hr : ∀ a xs, r w a xs → r w' a xs) (hf : Frm S w w') (hd : ∀ x, T x → ¬ S x) : RdL r T w' v esz l := by
  obtain ⟨xss, h1, h2⟩ := h
  exact ⟨xss, h1.frm hf hd, h2.imp hr⟩
theorem RdL.mono {α : Type} {r r' : AW → α → List V → Prop} {T T' : Nat → Prop} {w : AW} {v : V} {esz : Nat} {l : List α} (h : RdL r T w v esz l) (hr : ∀ a xs, r w a xs → r' w a xs) (ht : ∀ x, T x → T' x) : RdL r' T' w v esz l := by
  obtain ⟨xss, h1, h2⟩ := h
  exact ⟨xss, h1.mono ht, h2.imp hr⟩
theorem Buf.rd {S : Nat → Prop} {w : AW} {v : V} {esz n : Nat} {cs : List V} (h : Buf S w v esz n cs) : Rd S w v esz n cs := by
  cases h with
  | nil => exact .nil
  | @blk b _ _ r _ rest sh hS hb hx hl hr he hn hs =>
    refine .blk hS hb hx ?_ (by rw [List.length_append, hl]; omega) (by rw [List.drop_zero, List.take_append_of_le_length (by omega), List.take_of_length_le (by omega)]) (.inl rfl)
    rcases hs with rfl | rfl | ⟨f, F, rfl, h1, h2, h3, h4, h6, h5⟩
    · exact .inl rfl
    · exact .inr (.inl rfl)
    · exact .inr (.inr (.inr ⟨f, F, rfl, h1, h2, h3, h5⟩))
theorem Own.rd {N : Nat} {w : AW} {v : V} {esz n : Nat} {cs : List V} (h : Own N w v esz n cs) : Rd (fun b => N ≤ b ∧ b < w.next) w v esz n cs := by
  cases h with
  | nil => exact .nil
  | @blk b _ _ _ sh hN hb hx hl he hn hs =>
    refine .blk ⟨hN, hb⟩ hb hx ?_ (by omega) (by rw [List.drop_zero, List.take_of_length_le (by omega)]) (.inl rfl)
    rcases hs with rfl | rfl | ⟨f, F, rfl, h1, h2, h3, h4, h6, h5⟩
    · exact .inl rfl
    · exact .inr (.inl rfl)
    · exact .inr (.inr (.inr ⟨f, F, rfl, ⟨h1, h2⟩, h2, h3, h5⟩))
theorem Rd.elems {T : Nat → Prop} {w : AW} {v : V} {esz n : Nat} {cs : List V} (h : Rd T w v esz n cs) : w.elems esz v = some (n, cs) := by
  have hlen := h.len
  rcases h.inv with ⟨rfl, rfl, rfl⟩ | ⟨b, o, c, rfl, hB⟩
  · rfl
  · cases n with
    | zero =>
      have : cs = [] := List.length_eq_zero_iff.1 (by omega)
      subst this; rfl
    | succ n =>
      have := hB.load 0 ((n + 1) * esz) (by omega)
      rw [Nat.add_zero, List.drop_zero, List.take_of_length_le (by omega)] at this
      simp only [AW.elems, this]
theorem Rd.lenV {T : Nat → Prop} {w : AW} {v : V} {esz n : Nat} {cs : List V} (h : Rd T w v esz n cs) : lenV v = some n := by cases h <;> rfl
theorem Buf.lenV {S : Nat → Prop} {w : AW} {v : V} {esz n : Nat} {cs : List V} (h : Buf S w v esz n cs) : lenV v = some n := by cases h <;> rfl
structure CB (w : AW) (b : Nat) (l : List V) : Prop where
  lt : b < w.next
  get : w.heap.get b = some (.cells l .own)
theorem CB.frm {S : Nat → Prop} {w w' : AW} {b : Nat} {l : List V} (h : CB w b l) (hf : Frm S w w') (hn : ¬ S b) : CB w' b l := ⟨Nat.lt_of_lt_of_le h.lt hf.next, (hf.heap b h.lt hn).trans h.get⟩
theorem CB.load {w : AW} {b : Nat} {l : List V} (h : CB w b l) (o n : Nat) : w.load b o n = takeN n (l.drop o) := by simp only [AW.load, h.get]; rfl
theorem CB.all {w : AW} {b n : Nat} {l : List V} (h : CB w b l) (hn : l.length = n) : w.load b 0 n = some l := by rw [h.load, List.drop_zero]; exact takeN_all _ _ hn
def AW.put (w : AW) (b : Nat) (l : List V) : AW := w.turn b (.cells l .own)
theorem CB.set {w : AW} {b i : Nat} {l : List V} {v : V} (h : CB w b l) (hi : i < l.length) (hv : v.one = true) : w.store b i [v] = some (w.put b (l.set i v)) := store_cell h.get hi hv
theorem CB.setAll {w : AW} {b : Nat} {l vs : List V} (h : CB w b l) (hl : l.length = vs.length) (h1 : allOne vs = true) : w.store b 0 vs = some (w.put b vs) := by
  have : over l 0 vs = some vs := by
    have := over_mid [] l [] vs hl.symm
    simpa using this
  exact store_shr h.get (.inl rfl : Shr (fun _ => True) w b .own) h1 this
theorem put_cb {w : AW} {b : Nat} {l : List V} (h : b < w.next) : CB (w.put b l) b l := ⟨h, T.get_put_same⟩
theorem put_frm {w : AW} {b : Nat} {l : List V} : Frm (fun x => x = b) w (w.put b l) := turn_frm (sh := .own) rfl (.inl rfl)
theorem fresh_cb (w : AW) (l : List V) : CB (w.fresh l) w.next l := ⟨Nat.lt_succ_self _, T.get_put_same⟩
theorem fresh_frm {S : Nat → Prop} (w : AW) (l : List V) : Frm S w (w.fresh l) := Frm.new w _
theorem boxed (w : AW) {zs vs : List V} (hl : zs.length = vs.length) (h1 : allOne vs = true) : ∃ w2, (w.fresh zs).store w.next 0 vs = some w2 ∧ CB w2 w.next vs ∧ Frm (fun _ => False) w w2 ∧ w2.next = w.next + 1 := by
  refine ⟨_, (fresh_cb w zs).setAll hl h1, put_cb (Nat.lt_succ_self _), ?_, rfl⟩
  refine (fresh_frm (S := fun _ => False) w zs).trans (T := fun b => b = w.next) put_frm (fun _ _ h => h) ?_
  rintro y hy rfl; omega
theorem Frm.out {S : Nat → Prop} {w w1 w2 : AW} {b : Nat} {l : List V} (h : Frm S w w1) (hb : w.next ≤ b) (h2 : w2 = w1.put b l) : Frm S w w2 := by
  subst h2
  refine h.trans (T := fun x => x = b) put_frm (fun _ _ h => h) ?_
  rintro x hx rfl; omega
theorem Frm.tr {S : Nat → Prop} {a b c : AW} (h : Frm S a b) (h' : Frm S b c) : Frm S a c := h.trans h' (fun _ _ h => h) fun _ _ h => h
theorem Frm.no {S : Nat → Prop} {a b : AW} (h : Frm (fun _ => False) a b) : Frm S a b := h.mono fun _ _ h => h.elim
theorem All2.cells {α : Type} {r : α → List V → Prop} {l : List α} {xss : List (List V)} {a : α} {xs : List V} (h : All2 r l xss) (hx : r a xs) : All2 r (l ++ [a]) (xss ++ [xs]) ∧ (xss ++ [xs]).flatten = xss.flatten ++ xs := ⟨h.snoc hx, by simp⟩
end Go.AE
set_option linter.unusedVariables false
set_option maxRecDepth 10000
set_option linter.unusedSimpArgs false
namespace Go.Proofs.YtpbdojjfokelaaaDoor
open Go.AE Delphi
variable {tab : Tab}
structure PSt (w : AW) (bp : Nat) (wv : V) (k e : Nat) : Prop where
  lt : bp < w.next
  get : w.heap.get bp = some (.cells [wv, .int .i64 (Int.ofNat k), .int .i64 (Int.ofNat e)] .own)
theorem PSt.frm {S : Nat → Prop} {w w' : AW} {bp : Nat} {wv : V} {k e : Nat} (h : PSt w bp wv k e) (hf : Frm S w w') (hn : ¬ S bp) : PSt w' bp wv k e := ⟨Nat.lt_of_lt_of_le h.lt hf.next, (hf.heap bp h.lt hn).trans h.get⟩
theorem PSt.l0 {w : AW} {bp k e : Nat} {wv : V} (h : PSt w bp wv k e) : w.load bp 0 1 = some [wv] := by simp only [AW.load, h.get]; rfl
theorem PSt.l1 {w : AW} {bp k e : Nat} {wv : V} (h : PSt w bp wv k e) : w.load bp 1 1 = some [.int .i64 (Int.ofNat k)] := by simp only [AW.load, h.get]; rfl
theorem PSt.l2 {w : AW} {bp k e : Nat} {wv : V} (h : PSt w bp wv k e) : w.load bp 2 1 = some [.int .i64 (Int.ofNat e)] := by simp only [AW.load, h.get]; rfl
def PSt.mk' (w : AW) (bp : Nat) (wv : V) (k e : Nat) : AW := w.turn bp (.cells [wv, .int .i64 (Int.ofNat k), .int .i64 (Int.ofNat e)] .own)
theorem PSt.s1 {w : AW} {bp k e : Nat} {wv : V} (h : PSt w bp wv k e) (k' : Nat) : w.store bp 1 [.int .i64 (Int.ofNat k')] = some (PSt.mk' w bp wv k' e) := by
  have := store_cell (i := 1) (v := .int .i64 (Int.ofNat k')) h.get (by simp) rfl
  exact this
structure Wds (Tw : Nat → Prop) (w : AW) (bp : Nat) (wv : V) (ws : List Wd) : Prop where
  rd : Rd Tw w wv 3 ws.length (wdsCells ws)
  no : ¬ Tw bp
  len : ws.length ≤ 4000
theorem Wds.frm {Tw S : Nat → Prop} {w w' : AW} {bp : Nat} {wv : V} {ws : List Wd} (h : Wds Tw w bp wv ws) (hf : Frm S w w') (hd : ∀ x, Tw x → ¬ S x) : Wds Tw w' bp wv ws := ⟨h.rd.frm hf hd, h.no, h.len⟩
theorem wdCells_len (w : Wd) : (wdCells w).length = 3 := rfl
theorem Wds.at {Tw : Nat → Prop} {w : AW} {bp : Nat} {wv : V} {ws : List Wd} (h : Wds Tw w bp wv ws) : (wv = .nilslice ∧ ws = []) ∨ ∃ b o c, wv = .slice b o ws.length c ∧ b ≠ bp ∧ b < w.next ∧
    ∀ i x, ws[i]? = some x → w.load b (o + i * 3) 1 = some [.int .i64 (Int.ofNat x.kind)] ∧ w.load b (o + i * 3 + 1) 1 = some [.str x.text] ∧ w.load b (o + i * 3) 3 = some (wdCells x) := by
  rcases h.rd.inv with ⟨q1, q2, _⟩ | ⟨b, o, c, rfl, hB⟩
  · exact .inl ⟨q1, List.length_eq_zero_iff.1 q2⟩
  · refine .inr ⟨b, o, c, rfl, fun he => h.no (he ▸ hB.own), hB.lt, fun i x hx => ?_⟩
    have hlt : i < ws.length := (List.getElem?_eq_some_iff.1 hx).1
    have part : ∀ j k, j + k ≤ 3 → w.load b (o + i * 3 + j) k = some (((wdCells x).drop j).take k) := by
      intro j k hjk
      have := hB.load (i * 3 + j) k (by omega)
      rw [Nat.add_assoc, this]
      have h2 := flat_part wdCells_len (i := i) (j := j) (k := k) hx hjk
      rw [Nat.zero_add] at h2
      exact congrArg some h2
    exact ⟨part 0 1 (by omega), part 1 1 (by omega), part 0 3 (by omega)⟩
end Go.Proofs.YtpbdojjfokelaaaDoor
set_option linter.unusedVariables false
set_option maxRecDepth 10000
set_option linter.unusedSimpArgs false
namespace Go.Proofs.YtpbdojjfokelaaaDoor
open Go.AE Delphi
variable {tab : Tab}
def tmC (t : Tm) : List V := [.int .i64 (Int.ofNat t.kind), .str t.name, .int .i64 t.num]
def WOk (w : Wd) : Prop := w.text ≠ [] ∧ (w.kind ≠ 4 → w.text.length ≤ 16) ∧ 1 ≤ w.kind ∧ w.kind ≤ 4 ∧ ∀ c ∈ w.text, c < 256
end Go.Proofs.YtpbdojjfokelaaaDoor
set_option linter.unusedVariables false
set_option maxRecDepth 10000
set_option linter.unusedSimpArgs false
namespace Go.Proofs.YtpbdojjfokelaaaDoor
open Go.AE Delphi
variable {tab : Tab}
theorem PSt.cb {w : AW} {bp k e : Nat} {wv : V} (h : PSt w bp wv k e) : CB w bp [wv, .int .i64 (Int.ofNat k), .int .i64 (Int.ofNat e)] := ⟨h.lt, h.get⟩
def tmsC (l : List Tm) : List V := l.flatMap tmC
theorem tmsC_snoc (l : List Tm) (t : Tm) : tmsC (l ++ [t]) = tmsC l ++ tmC t := by simp [tmsC]
theorem tmC_len (t : Tm) : (tmC t).length = 3 := rfl
theorem rArgs_stop {ws : List Wd} {q : Nat} {args : List Tm} {k e : Nat} (h : e ≠ 0) : rArgs ws q args k e = (args, k, e) := by
  cases q with
  | zero => rfl
  | succ q => simp only [rArgs, if_neg h]
end Go.Proofs.YtpbdojjfokelaaaDoor
set_option linter.unusedVariables false
set_option maxRecDepth 10000
set_option linter.unusedSimpArgs false
namespace Go.Proofs.YtpbdojjfokelaaaDoor
open Go.AE Delphi
variable {tab : Tab}
def LtC (T : Nat → Prop) (w : AW) (l : Lt) (xs : List V) : Prop := ∃ v, xs = [.int .i64 (Int.ofNat l.kind), .str l.name, v] ∧ Rd T w v 3 l.args.length (tmsC l.args)
theorem LtC.frm {T S : Nat → Prop} {w w' : AW} {l : Lt} {xs : List V} (h : LtC T w l xs) (hf : Frm S w w') (hd : ∀ x, T x → ¬ S x) : LtC T w' l xs := by
  obtain ⟨v, h1, h2⟩ := h; exact ⟨v, h1, h2.frm hf hd⟩
theorem LtC.mono {T T' : Nat → Prop} {w : AW} {l : Lt} {xs : List V} (h : LtC T w l xs) (ht : ∀ x, T x → T' x) : LtC T' w l xs := by
  obtain ⟨v, h1, h2⟩ := h; exact ⟨v, h1, h2.mono ht⟩
theorem LtC.one {T : Nat → Prop} {w : AW} {l : Lt} {xs : List V} (h : LtC T w l xs) : xs.length = 3 ∧ allOne xs = true := by
  obtain ⟨v, rfl, h2⟩ := h
  refine ⟨rfl, ?_⟩
  rcases h2.inv with ⟨rfl, _⟩ | ⟨_, _, _, rfl, _⟩ <;> rfl
theorem LtC.zero {T : Nat → Prop} {w : AW} : LtC T w Lt.zero [.int .i64 0, .str [], .nilslice] := ⟨.nilslice, rfl, .nil⟩
end Go.Proofs.YtpbdojjfokelaaaDoor
set_option linter.unusedVariables false
set_option maxRecDepth 10000
set_option linter.unusedSimpArgs false
namespace Go.Proofs.YtpbdojjfokelaaaDoor
open Go.AE Delphi
variable {tab : Tab}
theorem tms_of {T : Nat → Prop} {w : AW} {b : Nat} {l : List Tm} (hT : T b) (h : CB w b (tmsC l)) : Rd T w (.slice b 0 l.length (.known l.length)) 3 l.length (tmsC l) := by
  have hl : (tmsC l).length = l.length * 3 := flat_len tmC_len l
  exact .blk hT h.lt h.get (.inl rfl) (by omega) (by rw [List.drop_zero, List.take_of_length_le (by omega)]) (Nat.le_refl _)
end Go.Proofs.YtpbdojjfokelaaaDoor
set_option linter.unusedVariables false
set_option maxRecDepth 10000
set_option linter.unusedSimpArgs false
namespace Go.Proofs.YtpbdojjfokelaaaDoor
open Go.AE Delphi
variable {tab : Tab}
theorem buf_one {S : Nat → Prop} {w : AW} {v : V} {esz n : Nat} {cs : List V} (h : Buf S w v esz n cs) : v.one = true ∧ v.cells = [v] := by
  rcases h.inv with ⟨rfl, _⟩ | ⟨_, rfl, _⟩ <;> exact ⟨rfl, rfl⟩
theorem rBody_stop {ws : List Wd} {q : Nat} {l : List Lt} {k e : Nat} (h : e ≠ 0) : rBody ws q l k e = (l, k, e) := by
  cases q with
  | zero => rfl
  | succ q => simp only [rBody, if_neg h]
end Go.Proofs.YtpbdojjfokelaaaDoor
set_option linter.unusedVariables false
set_option maxRecDepth 10000
set_option linter.unusedSimpArgs false
namespace Go.Proofs.YtpbdojjfokelaaaDoor
open Go.AE Delphi
variable {tab : Tab}
def RlC (T : Nat → Prop) (w : AW) (r : Rl) (xs : List V) : Prop := ∃ v u, xs = [.int .i64 (Int.ofNat r.head.kind), .str r.head.name, v, u] ∧ Rd T w v 3 r.head.args.length (tmsC r.head.args) ∧ RdL (LtC T) T w u 3 r.body
theorem RlC.frm {T S : Nat → Prop} {w w' : AW} {r : Rl} {xs : List V} (h : RlC T w r xs) (hf : Frm S w w') (hd : ∀ x, T x → ¬ S x) : RlC T w' r xs := by
  obtain ⟨v, u, h1, h2, h3⟩ := h
  exact ⟨v, u, h1, h2.frm hf hd, h3.frm (fun _ _ h => h.frm hf hd) hf hd⟩
theorem rdl_mono {T T' : Nat → Prop} {w : AW} {u : V} {l : List Lt} (h : RdL (LtC T) T w u 3 l) (ht : ∀ x, T x → T' x) : RdL (LtC T') T' w u 3 l := by
  obtain ⟨xss, h1, h2⟩ := h
  exact ⟨xss, h1.mono ht, h2.imp fun _ _ h => h.mono ht⟩
theorem RlC.mono {T T' : Nat → Prop} {w : AW} {r : Rl} {xs : List V} (h : RlC T w r xs) (ht : ∀ x, T x → T' x) : RlC T' w r xs := by
  obtain ⟨v, u, h1, h2, h3⟩ := h
  exact ⟨v, u, h1, h2.mono ht, rdl_mono h3 ht⟩
theorem RlC.one {T : Nat → Prop} {w : AW} {r : Rl} {xs : List V} (h : RlC T w r xs) : xs.length = 4 ∧ allOne xs = true := by
  obtain ⟨v, u, rfl, h2, xss, h3, _⟩ := h
  refine ⟨rfl, ?_⟩
  rcases h2.inv with ⟨rfl, _⟩ | ⟨_, _, _, rfl, _⟩ <;> rcases h3.inv with ⟨rfl, _⟩ | ⟨_, _, _, rfl, _⟩ <;> rfl
end Go.Proofs.YtpbdojjfokelaaaDoor
set_option linter.unusedVariables false
set_option maxRecDepth 10000
set_option linter.unusedSimpArgs false
namespace Go.Proofs.YtpbdojjfokelaaaDoor
open Go.AE Delphi
variable {tab : Tab}
structure RS (a0 w : AW) (bp : Nat) (wv : V) (rules : List Rl) (k e : Nat) (rv : V) (S T : Nat → Prop) (xss : List (List V)) : Prop where
  p : PSt w bp wv k e
  frm : Frm (fun b => b = bp) a0 w
  buf : Buf S w rv 4 rules.length xss.flatten
  rls : All2 (RlC T w) rules xss
  sepS : ∀ x, S x → a0.next ≤ x ∧ x < w.next ∧ ¬ T x
  sepT : ∀ x, T x → a0.next ≤ x ∧ x < w.next
theorem rRules_stop {ws : List Wd} {q : Nat} {l : List Rl} {k e : Nat} (h : ¬ (e = 0 ∧ k < ws.length)) : rRules ws q l k e = (l, k, e) := by
  cases q with
  | zero => rfl
  | succ q => simp only [rRules, if_neg h]
end Go.Proofs.YtpbdojjfokelaaaDoor
