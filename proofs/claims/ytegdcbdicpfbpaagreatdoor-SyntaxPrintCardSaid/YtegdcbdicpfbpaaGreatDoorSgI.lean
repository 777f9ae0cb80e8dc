/- A part of the proof: PLex, PLex2, PLex3, PLex4, W4. -/
import Derived.Test.YtegdcbdicpfbpaaGreatDoorSgG
import Derived.Test.YtegdcbdicpfbpaaGreatDoorSgH
set_option linter.unusedVariables false
set_option linter.unusedSimpArgs false
namespace Go.Proofs.YtegdcbdicpfbpaaGreatDoor
open Go.AE Delphi
variable {tab : Tab}
theorem small_ok (C : Codes tab) {c : Nat} {aw : AW} {K : V → AW → Prop} (h : K (.bool (isSmall c)) aw) : WF tab n_lex_small [.int .u8 (Int.ofNat c)] aw K := by
  refine WF_of C.c_lex_small rfl ?_
  unfold isSmall at h
  cases h1 : decide (97 ≤ c) <;> rw [h1] at h <;> refine WS_run 1000 (by simp only [go_sem, eRun_exit, simprocAttr, k_lex_small, h1]; rfl) ?_ <;> refine WS_ret ⟨_, by simp only [go_sem, eRun_exit, simprocAttr, k_lex_small]; rfl, ?_⟩ <;> exact h
theorem digit_ok (C : Codes tab) {c : Nat} {aw : AW} {K : V → AW → Prop} (h : K (.bool (isDigit c)) aw) : WF tab n_lex_digit [.int .u8 (Int.ofNat c)] aw K := by
  refine WF_of C.c_lex_digit rfl ?_
  unfold isDigit at h
  cases h1 : decide (48 ≤ c) <;> rw [h1] at h <;> refine WS_run 1000 (by simp only [go_sem, eRun_exit, simprocAttr, k_lex_digit, h1]; rfl) ?_ <;> refine WS_ret ⟨_, by simp only [go_sem, eRun_exit, simprocAttr, k_lex_digit]; rfl, ?_⟩ <;> exact h
theorem great_ok (C : Codes tab) {c : Nat} {aw : AW} {K : V → AW → Prop} (h : K (.bool (isGreat c)) aw) : WF tab n_lex_great [.int .u8 (Int.ofNat c)] aw K := by
  refine WF_of C.c_lex_great rfl ?_
  unfold isGreat at h
  cases h1 : decide (65 ≤ c) <;> rw [h1] at h <;> refine WS_run 1000 (by simp only [go_sem, eRun_exit, simprocAttr, k_lex_great, h1]; rfl) ?_ <;> refine WS_ret ⟨_, by simp only [go_sem, eRun_exit, simprocAttr, k_lex_great]; rfl, ?_⟩ <;> exact h
theorem named_ok (C : Codes tab) {c : Nat} {aw : AW} {K : V → AW → Prop} (h : K (.bool (isNamed c)) aw) : WF tab n_lex_named [.int .u8 (Int.ofNat c)] aw K := by
  refine WF_of C.c_lex_named rfl ?_
  unfold isNamed at h
  refine WS_run 1000 (by simp only [go_sem, eRun_exit, simprocAttr, k_lex_named]; rfl) ?_
  refine WS_call (by simp only [go_sem, eRun_exit, simprocAttr]) (by simp only [go_sem, eRun_exit, simprocAttr]; rfl) ?_
  refine small_ok C ?_
  cases h1 : isSmall c <;> rw [h1] at h
  · refine WS_run 1000 (by simp only [go_sem, eRun_exit, simprocAttr]; rfl) ?_
    refine WS_call (by simp only [go_sem, eRun_exit, simprocAttr]) (by simp only [go_sem, eRun_exit, simprocAttr]; rfl) ?_
    refine digit_ok C ?_
    cases h2 : isDigit c <;> rw [h2] at h <;> refine WS_run 1000 (by simp only [go_sem, eRun_exit, simprocAttr]; rfl) ?_ <;> refine WS_ret ⟨_, by simp only [go_sem, eRun_exit, simprocAttr, k_lex_named]; rfl, ?_⟩ <;> exact h
  · refine WS_run 1000 (by simp only [go_sem, eRun_exit, simprocAttr]; rfl) ?_
    refine WS_ret ⟨_, by simp only [go_sem, eRun_exit, simprocAttr, k_lex_named]; rfl, ?_⟩
    exact h
theorem varc_ok (C : Codes tab) {c : Nat} {aw : AW} {K : V → AW → Prop} (h : K (.bool (isVarC c)) aw) : WF tab n_lex_word_1 [.int .u8 (Int.ofNat c)] aw K := by
  refine WF_of C.c_lex_word_1 rfl ?_
  unfold isVarC at h
  refine WS_run 1000 (by simp only [go_sem, eRun_exit, simprocAttr, k_lex_word_1]; rfl) ?_
  refine WS_call (by simp only [go_sem, eRun_exit, simprocAttr]) (by simp only [go_sem, eRun_exit, simprocAttr]; rfl) ?_
  refine named_ok C ?_
  cases h1 : isNamed c <;> rw [h1] at h
  · refine WS_run 1000 (by simp only [go_sem, eRun_exit, simprocAttr]; rfl) ?_
    refine WS_call (by simp only [go_sem, eRun_exit, simprocAttr]) (by simp only [go_sem, eRun_exit, simprocAttr]; rfl) ?_
    refine great_ok C ?_
    refine WS_run 1000 (by simp only [go_sem, eRun_exit, simprocAttr]; rfl) ?_
    refine WS_ret ⟨_, by simp only [go_sem, eRun_exit, simprocAttr, k_lex_word_1]; rfl, ?_⟩
    exact h
  · refine WS_run 1000 (by simp only [go_sem, eRun_exit, simprocAttr]; rfl) ?_
    refine WS_ret ⟨_, by simp only [go_sem, eRun_exit, simprocAttr, k_lex_word_1]; rfl, ?_⟩
    exact h
theorem run_ok (C : Codes tab) {s : List Nat} {g : Nat} {p : Nat → Bool} {aw : AW} {K : V → AW → Prop} (hp : ∀ {c : Nat} {aw : AW} {K : V → AW → Prop}, c ∈ s → K (.bool (p c)) aw → WF tab g [.int .u8 (Int.ofNat c)] aw K)
    (hs : s.length ≤ 4611686018427387904) (h : K (.int .i64 (Int.ofNat (s.takeWhile p).length)) aw) : WF tab n_lex_run [.str s, .func (.func g) [] []] aw K := by
  refine WF_of C.c_lex_run rfl ?_
  refine WS_run 1000 (by simp only [go_sem, eRun_exit, simprocAttr, k_lex_run]; rfl) ?_
  refine WS_loop (fun n f w => ∃ k, f.get 0 = some (.str s) ∧ f.get 1 = some (.func (.func g) [] []) ∧ f.get 5 = some (.int .i64 (Int.ofNat k)) ∧ (s.takeWhile p = s.take k ++ (s.drop k).takeWhile p) ∧ k ≤ s.length ∧ n = s.length - k ∧ w = aw) ?_ s.length ⟨0, (by simp only [go_sem, eRun_exit, simprocAttr] <;> rfl), (by simp only [go_sem, eRun_exit, simprocAttr] <;> rfl), (by simp only [go_sem, eRun_exit, simprocAttr] <;> rfl), by simp, by omega, rfl, rfl⟩
  rintro n f w ⟨k, f0, f1, f5, htw, hk, rfl, rfl⟩ ih
  by_cases hlt : k < s.length
  · obtain ⟨c, hc⟩ : ∃ c, s[k]? = some c := ⟨s[k], by simp [hlt]⟩
    have hd : s.drop k = c :: s.drop (k + 1) := by
      rw [List.drop_eq_getElem_cons hlt]; simp [List.getElem?_eq_getElem hlt] at hc; rw [hc]
    have e2 : IntKind.wrap .i64 (Int.ofNat k + 1) = Int.ofNat (k + 1) := wrap_succ (by omega)
    refine WS_run 1000 (by simp only [go_sem, eRun_exit, simprocAttr, k_lex_run_p0, f0, f1, f5, hlt, hc]; rfl) ?_
    refine WS_call (by simp only [go_sem, eRun_exit, simprocAttr]) (by simp only [go_sem, eRun_exit, simprocAttr]; rfl) ?_
    refine hp (List.mem_of_getElem? hc) ?_
    cases hpc : p c
    · refine WS_run 1000 (by simp only [go_sem, eRun_exit, simprocAttr, f5]; rfl) ?_
      refine WS_ret ⟨_, by simp only [go_sem, eRun_exit, simprocAttr, k_lex_run]; rfl, ?_⟩
      rw [hd, List.takeWhile_cons_of_neg (by simp [hpc]), List.append_nil] at htw
      rw [htw, List.length_take, Nat.min_eq_left (by omega)] at h
      exact h
    · refine WS_run 1000 (by simp only [go_sem, eRun_exit, simprocAttr, f5, e2]; rfl) ?_
      refine ih (s.length - (k + 1)) _ _ (by omega) ⟨k + 1, (by simp only [go_sem, eRun_exit, simprocAttr, f0] <;> rfl), (by simp only [go_sem, eRun_exit, simprocAttr, f1] <;> rfl), (by simp only [go_sem, eRun_exit, simprocAttr] <;> rfl), ?_, by omega, rfl, rfl⟩
      rw [htw, hd, List.takeWhile_cons_of_pos hpc, List.take_add_one, hc]; simp
  · have hk2 : k = s.length := by omega
    refine WS_run 1000 (by simp only [go_sem, eRun_exit, simprocAttr, k_lex_run_p0, f0, f1, f5, hlt]; rfl) ?_
    refine WS_ret ⟨_, by simp only [go_sem, eRun_exit, simprocAttr, k_lex_run]; rfl, ?_⟩
    subst hk2
    simp at htw
    rw [htw] at h
    exact h
theorem number_ok (C : Codes tab) {c : Nat} {t : List Nat} {aw : AW} {K : V → AW → Prop} (hs : (c :: t).length ≤ 4611686018427387904) (h : K (.int .i64 (Int.ofNat (numberLen (c :: t)))) aw) : WF tab n_lex_number [.str (c :: t)] aw K := by
  refine WF_of C.c_lex_number rfl ?_
  have hl0 : 0 ≤ (c :: t).length := Nat.zero_le _
  have hl1 : 1 ≤ (c :: t).length := by simp
  simp only [List.length_cons] at hs
  have fin : ∀ (n : Nat) (fr : Fr), n ≤ 1 → (n = 1 ↔ c = 45) → fr.get 0 = some (.str (c :: t)) → fr.get 3 = some (.int .i64 (Int.ofNat n)) → fr.get 4 = some (.int .i64 (Int.ofNat (((c :: t).drop n).takeWhile isDigit).length)) →
      WS tab [.code k_lex_number_p2, .endB 0] fr aw (fun fr' aw' => ∃ vs, resV fr' aw' k_lex_number.results = some vs ∧ K (resOne vs) aw') := by
    intro n fr hn hn1 f0 f3 f4
    have hnum : numberLen (c :: t) = (if (((c :: t).drop n).takeWhile isDigit).length = 0 then 0 else if n = 1 ∧ (c :: t)[1]? = some 48 then 0 else if (c :: t)[n]? = some 48 then 1 else n + (((c :: t).drop n).takeWhile isDigit).length) := by
      unfold numberLen
      by_cases hc : c = 45
      · have : n = 1 := hn1.2 hc
        subst this; subst hc; rfl
      · have : n = 0 := by have := mt hn1.1 hc; omega
        subst this; simp [hc]
    rw [hnum] at h
    have hdl : (((c :: t).drop n).takeWhile isDigit).length ≤ (c :: t).length := Nat.le_trans (List.takeWhile_prefix _).length_le (by simp)
    simp only [List.length_cons] at hdl
    generalize hd : (((c :: t).drop n).takeWhile isDigit).length = d at f4 h hdl
    by_cases hd0 : d = 0
    · rw [if_pos hd0] at h
      refine WS_run 1000 (by simp only [go_sem, eRun_exit, simprocAttr, k_lex_number_p2, f4, hd0]; rfl) ?_
      refine WS_ret ⟨_, by simp only [go_sem, eRun_exit, simprocAttr, k_lex_number]; rfl, ?_⟩
      exact h
    · rw [if_neg hd0] at h
      have hlt : n < (c :: t).length := by
        rcases Nat.lt_or_ge n (c :: t).length with h1 | h1
        · exact h1
        · rw [List.drop_eq_nil_of_le h1] at hd; simp at hd; omega
      obtain ⟨e, he⟩ : ∃ e, (c :: t)[n]? = some e := ⟨_, List.getElem?_eq_getElem hlt⟩
      by_cases hn' : n = 1
      · subst hn'
        by_cases he0 : e = 48
        · rw [if_pos ⟨rfl, by rw [he, he0]⟩] at h
          simp only [List.getElem?_cons_succ] at he
          refine WS_run 1000 (by simp only [go_sem, eRun_exit, simprocAttr, k_lex_number_p2, k_lex_number_p0, f0, f3, f4, hd0, he, he0]; rfl) ?_
          refine WS_ret ⟨_, by simp only [go_sem, eRun_exit, simprocAttr, k_lex_number]; rfl, ?_⟩
          exact h
        · rw [if_neg (by rw [he]; simp [he0]), if_neg (by rw [he]; simp [he0])] at h
          simp only [List.getElem?_cons_succ] at he
          have hw : IntKind.wrap .i64 (Int.ofNat 1 + Int.ofNat d) = Int.ofNat (1 + d) := wrap_add (by omega)
          refine WS_run 1000 (by simp only [go_sem, eRun_exit, Nat.reduceAdd, Nat.reduceLT, Nat.reduceEqDiff, reduceIte, reduceCtorEq, Int.reduceLT, Int.reduceBEq, Int.reduceGE, Int.reduceEq, Int.reduceAdd, Nat.reduceLeDiff, k_lex_number_p2, k_lex_number_p0, k_lex_number_p1, f0, f3, f4, hd0, he, he0, hw]; rfl) ?_
          refine WS_ret ⟨_, by simp only [go_sem, eRun_exit, Nat.reduceAdd, Nat.reduceLT, Nat.reduceEqDiff, reduceIte, reduceCtorEq, Int.reduceBEq, Int.reduceBNe, Int.reduceLT, Int.reduceLE, Int.reduceGT, Int.reduceGE, Int.reduceEq, Int.reduceAdd, Int.reduceSub, Int.reduceMul, Nat.reduceMul, Nat.reduceSub, Nat.reduceLeDiff, k_lex_number]; rfl, ?_⟩
          exact h
      · rw [if_neg (by simp [hn'])] at h
        by_cases he0 : e = 48
        · rw [if_pos (by rw [he, he0])] at h
          refine WS_run 1000 (by simp only [go_sem, eRun_exit, simprocAttr, k_lex_number_p2, k_lex_number_p0, k_lex_number_p1, f0, f3, f4, hd0, hn', he, he0]; rfl) ?_
          refine WS_ret ⟨_, by simp only [go_sem, eRun_exit, simprocAttr, k_lex_number]; rfl, ?_⟩
          exact h
        · rw [if_neg (by rw [he]; simp [he0])] at h
          have hw : IntKind.wrap .i64 (Int.ofNat n + Int.ofNat d) = Int.ofNat (n + d) := wrap_add (by omega)
          refine WS_run 1000 (by simp only [go_sem, eRun_exit, simprocAttr, k_lex_number_p2, k_lex_number_p0, k_lex_number_p1, f0, f3, f4, hd0, hn', he, he0, hw]; rfl) ?_
          refine WS_ret ⟨_, by simp only [go_sem, eRun_exit, simprocAttr, k_lex_number]; rfl, ?_⟩
          exact h
  by_cases hc : c = 45
  · subst hc
    refine WS_run 1000 (by simp only [go_sem, eRun_exit, simprocAttr, k_lex_number, hl1]; rfl) ?_
    refine WS_call (by simp only [go_sem, eRun_exit, simprocAttr]) (by simp only [go_sem, eRun_exit, simprocAttr]; rfl) ?_
    refine run_ok C (p := isDigit) (fun _ hk => digit_ok C hk) (by simp only [List.length_drop, List.length_cons]; omega) ?_
    refine WS_runB 1000 (by simp only [go_sem, eRun_exit, simprocAttr]; rfl) ?_
    refine fin 1 _ (by omega) (by simp) (by simp only [go_sem, eRun_exit, simprocAttr] <;> rfl) (by simp only [go_sem, eRun_exit, simprocAttr] <;> rfl) (by simp only [go_sem, eRun_exit, simprocAttr] <;> rfl)
  · refine WS_run 1000 (by simp only [go_sem, eRun_exit, simprocAttr, k_lex_number, hc, hl0]; rfl) ?_
    refine WS_call (by simp only [go_sem, eRun_exit, simprocAttr]) (by simp only [go_sem, eRun_exit, simprocAttr]; rfl) ?_
    refine run_ok C (p := isDigit) (fun _ hk => digit_ok C hk) (by simp only [List.length_drop, List.length_cons]; omega) ?_
    refine WS_runB 1000 (by simp only [go_sem, eRun_exit, simprocAttr]; rfl) ?_
    refine fin 0 _ (by omega) (by simp [hc]) (by simp only [go_sem, eRun_exit, simprocAttr] <;> rfl) (by simp only [go_sem, eRun_exit, simprocAttr] <;> rfl) (by simp only [go_sem, eRun_exit, simprocAttr] <;> rfl)
theorem isPrefix_take {g s : List Nat} : g.isPrefixOf s = (decide (g.length ≤ s.length) && eqL (s.take g.length) g) := by
  have e : ∀ (a b : List Nat), eqL a b = decide (a = b) := fun a b => by
    cases h : eqL a b with
    | true => simp [eqL_iff.1 h]
    | false => simp only [Bool.false_eq, decide_eq_false_iff_not]; intro hh; rw [eqL_iff.2 hh] at h; cases h
  rw [Bool.eq_iff_iff, List.isPrefixOf_iff_prefix, e]
  simp only [Bool.and_eq_true, decide_eq_true_eq]
  constructor
  · intro h; exact ⟨h.length_le, (List.prefix_iff_eq_take.1 h).symm⟩
  · intro h; exact List.prefix_iff_eq_take.2 h.2.symm
theorem prefix_ok (C : Codes tab) {s g : List Nat} {aw : AW} {K : V → AW → Prop} (h : K (.bool (g.isPrefixOf s)) aw) : WF tab n_strings_HasPrefix [.str s, .str g] aw K := by
  refine WF_of C.c_strings_HasPrefix rfl ?_
  refine WS_run 1000 (by simp only [go_sem, eRun_exit, simprocAttr, k_strings_HasPrefix]; rfl) ?_
  refine WS_call (by simp only [go_sem, eRun_exit, simprocAttr]) (by simp only [go_sem, eRun_exit, simprocAttr]; rfl) ?_
  refine WF_of C.c_int_stringslite_HasPrefix rfl ?_
  rw [isPrefix_take] at h
  have hz : 0 ≤ g.length := Nat.zero_le _
  by_cases hl : g.length ≤ s.length
  · rw [decide_eq_true hl, Bool.true_and] at h
    refine WS_run 1000 (by simp only [go_sem, eRun_exit, simprocAttr, k_int_stringslite_HasPrefix, hl, hz, List.drop_zero, Nat.sub_zero, strS]; rfl) ?_
    refine WS_ret ⟨_, by simp only [go_sem, eRun_exit, simprocAttr, k_int_stringslite_HasPrefix]; rfl, ?_⟩
    refine WS_run 1000 (by simp only [go_sem, eRun_exit, simprocAttr]; rfl) ?_
    refine WS_ret ⟨_, by simp only [go_sem, eRun_exit, simprocAttr, k_strings_HasPrefix]; rfl, ?_⟩
    exact h
  · rw [decide_eq_false hl, Bool.false_and] at h
    refine WS_run 1000 (by simp only [go_sem, eRun_exit, simprocAttr, k_int_stringslite_HasPrefix, hl, hz]; rfl) ?_
    refine WS_ret ⟨_, by simp only [go_sem, eRun_exit, simprocAttr, k_int_stringslite_HasPrefix]; rfl, ?_⟩
    refine WS_run 1000 (by simp only [go_sem, eRun_exit, simprocAttr]; rfl) ?_
    refine WS_ret ⟨_, by simp only [go_sem, eRun_exit, simprocAttr, k_strings_HasPrefix]; rfl, ?_⟩
    exact h
def ExtIdx (tab : Tab) : Prop := ∀ (s : List Nat) (c : Nat) (aw : AW), c < 256 → tab.ext n_int_bytealg_IndexByteString [.str s, .int .u8 (Int.ofNat c)] aw (idxV (idxN s c)) aw
theorem indexByte_ok (C : Codes tab) (E : ExtIdx tab) {s : List Nat} {c : Nat} {aw : AW} {K : V → AW → Prop} (hc : c < 256) (h : K (idxV (idxN s c)) aw) : WF tab n_strings_IndexByte [.str s, .int .u8 (Int.ofNat c)] aw K := by
  refine WF_of C.c_strings_IndexByte rfl ?_
  refine WS_run 1000 (by simp only [go_sem, eRun_exit, simprocAttr, k_strings_IndexByte]; rfl) ?_
  refine WS_call (by simp only [go_sem, eRun_exit, simprocAttr]) (by simp only [go_sem, eRun_exit, simprocAttr]; rfl) ?_
  refine WF_of C.c_int_stringslite_IndexByte rfl ?_
  refine WS_run 1000 (by simp only [go_sem, eRun_exit, simprocAttr, k_int_stringslite_IndexByte]; rfl) ?_
  refine WS_ext (by simp only [go_sem, eRun_exit, simprocAttr]) (by simp only [go_sem, eRun_exit, simprocAttr] <;> rfl) (E s c aw hc) ?_
  refine WS_run 1000 (by simp only [go_sem, eRun_exit, simprocAttr]; rfl) ?_
  refine WS_ret ⟨_, by simp only [go_sem, eRun_exit, simprocAttr, k_int_stringslite_IndexByte]; rfl, ?_⟩
  refine WS_run 1000 (by simp only [go_sem, eRun_exit, simprocAttr]; rfl) ?_
  refine WS_ret ⟨_, by simp only [go_sem, eRun_exit, simprocAttr, k_strings_IndexByte]; rfl, ?_⟩
  exact h
theorem idxN_none : ∀ {s : List Nat} {c : Nat}, idxN s c = none → ∀ x ∈ s, x ≠ c
  | [], c, h => by simp
  | b :: l, c, h => by
    simp only [idxN] at h
    split at h
    · cases h
    · rename_i hb
      split at h
      · cases h
      · rename_i hn
        intro x hx
        rcases List.mem_cons.1 hx with rfl | hx
        · intro he; subst he; rw [Nat.beq_refl] at hb; cases hb
        · exact idxN_none hn x hx
theorem idxN_some : ∀ {s : List Nat} {c n : Nat}, idxN s c = some n → s[n]? = some c ∧ ∀ x ∈ s.take n, x ≠ c
  | [], c, n, h => by cases h
  | b :: l, c, n, h => by
    simp only [idxN] at h
    split at h
    · rename_i hb; cases h; simp [Nat.eq_of_beq_eq_true hb]
    · rename_i hb
      split at h
      · rename_i m hm
        cases h
        obtain ⟨h1, h2⟩ := idxN_some hm
        refine ⟨by simpa using h1, fun x hx => ?_⟩
        rcases List.mem_cons.1 (by simpa using hx) with rfl | hx
        · intro he; subst he; rw [Nat.beq_refl] at hb; cases hb
        · exact h2 x hx
      · cases h
theorem blk_note : ∀ (u : List Nat) (r : List Nat), (∀ x ∈ u, x ≠ 10) → blk true (u ++ 10 :: r) = u.length + (blk false r + 1)
  | [], r, _ => by simp [blk]
  | c :: u, r, h => by
    have hc := h c (by simp)
    have := blk_note u r (fun x hx => h x (by simp [hx]))
    simp only [List.cons_append, blk, if_neg hc, this, List.length_cons]; omega
theorem blk_noteEnd : ∀ (u : List Nat), (∀ x ∈ u, x ≠ 10) → blk true u = u.length
  | [], _ => by simp [blk]
  | c :: u, h => by
    have hc := h c (by simp)
    have := blk_noteEnd u (fun x hx => h x (by simp [hx]))
    simp only [blk, if_neg hc, this, List.length_cons]
theorem isBlank_idx {c : Nat} : isBlank c = (match idxN [32, 9, 10, 13] c with | some _ => true | none => false) := by
  simp only [isBlank, idxN]
  by_cases h1 : c = 32
  · subst h1; rfl
  by_cases h2 : c = 9
  · subst h2; rfl
  by_cases h3 : c = 10
  · subst h3; rfl
  by_cases h4 : c = 13
  · subst h4; rfl
  have e : ∀ n, c ≠ n → Nat.beq n c = false := fun n hn => by
    cases hb : Nat.beq n c with
    | false => rfl
    | true => exact absurd (Nat.eq_of_beq_eq_true hb).symm hn
  simp [h1, h2, h3, h4, e 32 h1, e 9 h2, e 10 h3, e 13 h4]
theorem blank_ok (C : Codes tab) (E : ExtIdx tab) {s : List Nat} {aw : AW} {K : V → AW → Prop} (hb : ∀ x ∈ s, x < 256) (hs : s.length ≤ 4611686018427387904) (h : K (.int .i64 (Int.ofNat (blk false s))) aw) : WF tab n_lex_blank [.str s] aw K := by
  refine WF_of C.c_lex_blank rfl ?_
  refine WS_run 1000 (by simp only [go_sem, eRun_exit, simprocAttr, k_lex_blank]; rfl) ?_
  refine WS_loop (fun n f w => ∃ k, f.get 0 = some (.str s) ∧ f.get 3 = some (.int .i64 (Int.ofNat k)) ∧ blk false s = k + blk false (s.drop k) ∧ k ≤ s.length ∧ n = s.length - k ∧ w = aw) ?_ s.length ⟨0, (by simp only [go_sem, eRun_exit, simprocAttr] <;> rfl), (by simp only [go_sem, eRun_exit, simprocAttr] <;> rfl), by simp, by omega, rfl, rfl⟩
  rintro n f w ⟨k, f0, f3, hbl, hk, rfl, rfl⟩ ih
  by_cases hlt : k < s.length
  · obtain ⟨c, hc⟩ : ∃ c, s[k]? = some c := ⟨_, List.getElem?_eq_getElem hlt⟩
    have hd : s.drop k = c :: s.drop (k + 1) := by
      rw [List.drop_eq_getElem_cons hlt]; rw [List.getElem?_eq_getElem hlt] at hc; cases hc; rfl
    have hc256 := hb c (List.mem_of_getElem? hc)
    refine WS_run 1000 (by simp only [go_sem, eRun_exit, simprocAttr, k_lex_blank_p3, k_lex_blank_p2, f0, f3, hlt, hc]; rfl) ?_
    refine WS_call (by simp only [go_sem, eRun_exit, simprocAttr]) (by simp only [go_sem, eRun_exit, simprocAttr]; rfl) ?_
    refine indexByte_ok C E hc256 ?_
    have hib := isBlank_idx (c := c)
    cases hx : idxN [32, 9, 10, 13] c with
    | some j =>
      rw [hx] at hib
      have hw : IntKind.wrap .i64 (Int.ofNat k + 1) = Int.ofNat (k + 1) := wrap_succ (by omega)
      refine WS_run 1000 (by simp only [go_sem, eRun_exit, simprocAttr, idxV, f3, hw, Nat.zero_le]; rfl) ?_
      refine ih (s.length - (k + 1)) _ _ (by omega) ⟨k + 1, (by simp only [go_sem, eRun_exit, simprocAttr, f0] <;> rfl), (by simp only [go_sem, eRun_exit, simprocAttr] <;> rfl), ?_, by omega, rfl, rfl⟩
      rw [hbl, hd]; simp only [blk, hib, if_true]; omega
    | none =>
      rw [hx] at hib
      have hm1 : decide ((-1 : Int) ≥ 0) = false := by decide
      by_cases hp : c = 37
      · subst hp
        refine WS_run 1000 (by simp only [go_sem, eRun_exit, simprocAttr, idxV, f0, f3, hm1, k_lex_blank_p1, k_lex_blank_p0, hc, hk]; rfl) ?_
        refine WS_call (by simp only [go_sem, eRun_exit, simprocAttr]) (by simp only [go_sem, eRun_exit, simprocAttr]; rfl) ?_
        refine indexByte_ok C E (by decide) ?_
        cases hy : idxN (s.drop k) 10 with
        | some j =>
          obtain ⟨h1, h2⟩ := idxN_some hy
          have hjlt : k + j < s.length := by
            have := (List.getElem?_eq_some_iff.1 h1).1
            simp only [List.length_drop] at this; omega
          have hw : IntKind.wrap .i64 (Int.ofNat k + Int.ofNat j) = Int.ofNat (k + j) := wrap_add (by omega)
          refine WS_run 1000 (by simp only [go_sem, eRun_exit, simprocAttr, idxV, f0, f3, hw, Nat.zero_le]; rfl) ?_
          have hj0 : j ≠ 0 := by rintro rfl; rw [hd] at h1; simp at h1
          refine ih (s.length - (k + j)) _ _ (by omega) ⟨k + j, (by simp only [go_sem, eRun_exit, simprocAttr, f0] <;> rfl), (by simp only [go_sem, eRun_exit, simprocAttr] <;> rfl), ?_, by omega, rfl, rfl⟩
          have hsplit : s.drop k = (s.drop k).take j ++ 10 :: (s.drop (k + j + 1)) := by
            have e1 : (s.drop k).drop j = 10 :: (s.drop (k + j + 1)) := by
              have hl : j < (s.drop k).length := (List.getElem?_eq_some_iff.1 h1).1
              rw [List.drop_eq_getElem_cons hl]
              rw [List.getElem?_eq_getElem hl] at h1
              rw [Option.some.inj h1, List.drop_drop, Nat.add_assoc]
            rw [← e1, List.take_append_drop]
          have e2 : s.drop (k + j) = 10 :: s.drop (k + j + 1) := by
            have hl : j < (s.drop k).length := (List.getElem?_eq_some_iff.1 h1).1
            rw [← List.drop_drop, List.drop_eq_getElem_cons hl]
            rw [List.getElem?_eq_getElem hl] at h1
            rw [Option.some.inj h1, List.drop_drop, Nat.add_assoc]
          rw [hbl]
          obtain ⟨m, rfl⟩ : ∃ m, j = m + 1 := ⟨j - 1, by omega⟩
          have e3 : (s.drop k).take (m + 1) = 37 :: (s.drop (k + 1)).take m := by rw [hd, List.take_succ_cons]
          have hl3 : ((s.drop (k + 1)).take m).length = m := by simp; omega
          rw [e3] at hsplit h2
          rw [hsplit]
          have : blk false (37 :: (s.drop (k + 1)).take m ++ 10 :: s.drop (k + (m + 1) + 1)) = blk true ((s.drop (k + 1)).take m ++ 10 :: s.drop (k + (m + 1) + 1)) + 1 := by
            simp [blk, isBlank]
          rw [this, blk_note _ _ (fun x hx => h2 x (by simp [hx])), hl3, e2]
          simp only [blk, isBlank]
          simp
          omega
        | none =>
          have h2 := idxN_none hy
          refine WS_run 1000 (by simp only [go_sem, eRun_exit, simprocAttr, idxV, f0, f3, hm1]; rfl) ?_
          refine ih 0 _ _ (by omega) ⟨s.length, (by simp only [go_sem, eRun_exit, simprocAttr, f0] <;> rfl), (by simp only [go_sem, eRun_exit, simprocAttr] <;> rfl), ?_, by omega, by omega, rfl⟩
          rw [hbl, hd]
          rw [hd] at h2
          have : blk false (37 :: s.drop (k + 1)) = blk true (s.drop (k + 1)) + 1 := by simp [blk, isBlank]
          rw [this, blk_noteEnd _ (fun x hx => h2 x (by simp [hx]))]
          simp [blk]; omega
      · refine WS_run 1000 (by simp only [go_sem, eRun_exit, simprocAttr, idxV, f0, f3, hm1, k_lex_blank_p1, hc, hp]; rfl) ?_
        refine WS_ret ⟨_, by simp only [go_sem, eRun_exit, simprocAttr, k_lex_blank]; rfl, ?_⟩
        rw [hbl, hd] at h
        simp only [blk, hib, Bool.false_eq_true, if_false, if_neg hp, Nat.add_zero] at h
        exact h
  · have hk2 : k = s.length := by omega
    refine WS_run 1000 (by simp only [go_sem, eRun_exit, simprocAttr, k_lex_blank_p3, f0, f3, hlt]; rfl) ?_
    refine WS_ret ⟨_, by simp only [go_sem, eRun_exit, simprocAttr, k_lex_blank]; rfl, ?_⟩
    subst hk2
    rw [List.drop_length] at hbl
    simp only [blk, Nat.add_zero] at hbl
    rw [hbl] at h
    exact h
theorem lex_word_ok (C : Codes tab) {c : Nat} {t : List Nat} {aw : AW} {K : V → AW → Prop} (hs : (c :: t).length ≤ 4611686018427387904)
    (h : ∀ aw', Ext aw.next aw aw' → K (.tuple [.int .i64 (Int.ofNat (lexWord (c :: t)).1), .int .i64 (Int.ofNat (lexWord (c :: t)).2)]) aw') : WF tab n_lex_word [.str (c :: t)] aw K := by
  refine WF_of C.c_lex_word rfl ?_
  refine WS_run 1000 (by simp only [go_sem, eRun_exit, simprocAttr, k_lex_word, k_lex_word_p2]; rfl) ?_
  refine WS_call (by simp only [go_sem, eRun_exit, simprocAttr]) (by simp only [go_sem, eRun_exit, simprocAttr]; rfl) ?_
  refine small_ok C ?_
  cases h1 : isSmall c with
  | true =>
    refine WS_run 1000 (by simp only [go_sem, eRun_exit, simprocAttr]; rfl) ?_
    refine WS_call (by simp only [go_sem, eRun_exit, simprocAttr]) (by simp only [go_sem, eRun_exit, simprocAttr]; rfl) ?_
    refine run_ok C (p := isNamed) (fun _ hk => named_ok C hk) hs ?_
    refine WS_run 1000 (by simp only [go_sem, eRun_exit, simprocAttr]; rfl) ?_
    refine WS_ret ⟨_, by simp only [go_sem, eRun_exit, simprocAttr, k_lex_word]; rfl, ?_⟩
    have := h aw (Ext.refl aw)
    simp only [lexWord, h1, if_true] at this
    exact this
  | false =>
    refine WS_run 1000 (by simp only [go_sem, eRun_exit, simprocAttr, k_lex_word_p1]; rfl) ?_
    refine WS_call (by simp only [go_sem, eRun_exit, simprocAttr]) (by simp only [go_sem, eRun_exit, simprocAttr]; rfl) ?_
    refine great_ok C ?_
    cases h2 : isGreat c with
    | true =>
      refine WS_run 1000 (by simp only [go_sem, eRun_exit, simprocAttr]; rfl) ?_
      refine WS_call (by simp only [go_sem, eRun_exit, simprocAttr]) (by simp only [go_sem, eRun_exit, simprocAttr]; rfl) ?_
      refine run_ok C (p := isVarC) (fun _ hk => varc_ok C hk) hs ?_
      refine WS_run 1000 (by simp only [go_sem, eRun_exit, simprocAttr]; rfl) ?_
      refine WS_ret ⟨_, by simp only [go_sem, eRun_exit, simprocAttr, k_lex_word]; rfl, ?_⟩
      have := h aw (Ext.refl aw)
      simp only [lexWord, h1, h2, if_true, Bool.false_eq_true, if_false] at this
      exact this
    | false =>
      refine WS_run 1000 (by simp only [go_sem, eRun_exit, simprocAttr, k_lex_word_p0]; rfl) ?_
      refine WS_call (by simp only [go_sem, eRun_exit, simprocAttr]) (by simp only [go_sem, eRun_exit, simprocAttr]; rfl) ?_
      refine digit_ok C ?_
      have num : isDigit c = true ∨ c = 45 → K (.tuple [.int .i64 (Int.ofNat 3), .int .i64 (Int.ofNat (numberLen (c :: t)))]) aw := by
        intro hh
        have := h aw (Ext.refl aw)
        have hd : (isDigit c || decide (c = 45)) = true := by simpa using hh
        simp only [lexWord, h1, h2, hd, if_true, Bool.false_eq_true, if_false] at this
        exact this
      cases h3 : isDigit c with
      | true =>
        refine WS_run 1000 (by simp only [go_sem, eRun_exit, simprocAttr]; rfl) ?_
        refine WS_call (by simp only [go_sem, eRun_exit, simprocAttr]) (by simp only [go_sem, eRun_exit, simprocAttr]; rfl) ?_
        refine number_ok C hs ?_
        refine WS_run 1000 (by simp only [go_sem, eRun_exit, simprocAttr]; rfl) ?_
        refine WS_ret ⟨_, by simp only [go_sem, eRun_exit, simprocAttr, k_lex_word]; rfl, ?_⟩
        exact num (.inl h3)
      | false =>
        by_cases h4 : c = 45
        · refine WS_run 1000 (by simp only [go_sem, eRun_exit, simprocAttr, h4]; rfl) ?_
          refine WS_call (by simp only [go_sem, eRun_exit, simprocAttr]) (by simp only [go_sem, eRun_exit, simprocAttr]; rfl) ?_
          subst h4
          refine number_ok C hs ?_
          refine WS_run 1000 (by simp only [go_sem, eRun_exit, simprocAttr]; rfl) ?_
          refine WS_ret ⟨_, by simp only [go_sem, eRun_exit, simprocAttr, k_lex_word]; rfl, ?_⟩
          exact num (.inr rfl)
        · have hl : lexWord (c :: t) = (match signs.find? (fun g => g.isPrefixOf (c :: t)) with
              | some g => (4, g.length)
              | none => (0, 0)) := by
            simp only [lexWord, h1, h2, h3, Bool.false_or, decide_eq_false h4, Bool.false_eq_true, if_false]; rfl
          refine WS_run 1000 (by simp only [go_sem, eRun_exit, simprocAttr, h4, evParts, fillV, V.cells, List.length_cons, List.length_nil, over]; rfl) ?_
          have hload : ∀ (i : Nat) (g : List Nat), signs[i]? = some g → (aw.fresh [.str [58, 45], .str [33, 61], .str [60, 61], .str [40], .str [41], .str [44], .str [46], .str [33], .str [61], .str [60]]).load aw.next (0 + i * 1) 1 = some [.str g] := by
            intro i g hg
            have hi : i < 10 := (List.getElem?_eq_some_iff.1 hg).1
            simp only [AW.load, AW.fresh, AW.new, T.get_putk, if_true, AW.alive, Nat.zero_add, Nat.mul_one]
            match i, hi with
            | 0, _ | 1, _ | 2, _ | 3, _ | 4, _ | 5, _ | 6, _ | 7, _ | 8, _ | 9, _ => simp [signs] at hg; subst hg; rfl
          have hext : Ext aw.next aw (aw.fresh [.str [58, 45], .str [33, 61], .str [60, 61], .str [40], .str [41], .str [44], .str [46], .str [33], .str [61], .str [60]]) := Ext.new (Nat.le_refl _) _
          generalize aw.fresh [.str [58, 45], .str [33, 61], .str [60, 61], .str [40], .str [41], .str [44], .str [46], .str [33], .str [61], .str [60]] = aw1 at hload hext
          refine WS_loop (fun n f w => ∃ i, f.get 0 = some (.str (c :: t)) ∧ f.get 28 = some (.slice aw.next 0 10 (.known 10)) ∧ f.get 29 = some (.int .i64 (Int.ofNat 10)) ∧ f.get 30 = some (.int .i64 (Int.ofNat i)) ∧ signs.find? (fun g => g.isPrefixOf (c :: t)) = (signs.drop i).find? (fun g => g.isPrefixOf (c :: t)) ∧ i ≤ 10 ∧ n = 10 - i ∧ w = aw1) ?_ 10 ⟨0, (by simp only [go_sem, eRun_exit, simprocAttr] <;> rfl), (by simp only [go_sem, eRun_exit, simprocAttr] <;> rfl), (by simp only [go_sem, eRun_exit, simprocAttr] <;> rfl), (by simp only [go_sem, eRun_exit, simprocAttr] <;> rfl), rfl, by omega, rfl, rfl⟩
          rintro n f w ⟨i, f0, f28, f29, f30, hf, hi, rfl, rfl⟩ ih
          by_cases hlt : i < 10
          · obtain ⟨g, hg⟩ : ∃ g, signs[i]? = some g := ⟨_, List.getElem?_eq_getElem (by simpa [signs] using hlt)⟩
            have hd : signs.drop i = g :: signs.drop (i + 1) := by
              have hl : i < signs.length := by simpa [signs] using hlt
              rw [List.drop_eq_getElem_cons hl]
              rw [List.getElem?_eq_getElem hl] at hg
              rw [Option.some.inj hg]
            have hld := hload i g hg
            refine WS_run 1000 (by simp only [go_sem, eRun_exit, simprocAttr, k_lex_word_p4, k_lex_word_p3, f0, f28, f29, f30, hlt, hld]; rfl) ?_
            refine WS_call (by simp only [go_sem, eRun_exit, simprocAttr]) (by simp only [go_sem, eRun_exit, simprocAttr]; rfl) ?_
            refine prefix_ok C ?_
            cases hp : g.isPrefixOf (c :: t) with
            | true =>
              refine WS_run 1000 (by simp only [go_sem, eRun_exit, simprocAttr]; rfl) ?_
              refine WS_ret ⟨_, by simp only [go_sem, eRun_exit, simprocAttr, k_lex_word]; rfl, ?_⟩
              have := h w hext
              rw [hl, hf, hd, List.find?_cons_of_pos (by simpa using hp)] at this
              exact this
            | false =>
              have hw : IntKind.wrap .i64 (Int.ofNat i + 1) = Int.ofNat (i + 1) := wrap_succ (by omega)
              refine WS_run 1000 (by simp only [go_sem, eRun_exit, simprocAttr, f30, hw]; rfl) ?_
              refine ih (10 - (i + 1)) _ _ (by omega) ⟨i + 1, (by simp only [go_sem, eRun_exit, simprocAttr, f0] <;> rfl), (by simp only [go_sem, eRun_exit, simprocAttr, f28] <;> rfl), (by simp only [go_sem, eRun_exit, simprocAttr, f29] <;> rfl), (by simp only [go_sem, eRun_exit, simprocAttr] <;> rfl), ?_, by omega, rfl, rfl⟩
              rw [hf, hd, List.find?_cons_of_neg (by simp [hp])]
          · refine WS_run 1000 (by simp only [go_sem, eRun_exit, simprocAttr, k_lex_word_p4, f29, f30, hlt]; rfl) ?_
            refine WS_ret ⟨_, by simp only [go_sem, eRun_exit, simprocAttr, k_lex_word]; rfl, ?_⟩
            have : i = 10 := by omega
            subst this
            have := h w hext
            rw [hl, hf] at this
            exact this
def wdCells (w : Wd) : List V := [.int .i64 (Int.ofNat w.kind), .str w.text, .int .i64 (Int.ofNat w.at')]
def wdsCells (l : List Wd) : List V := l.flatMap wdCells
theorem wdsCells_snoc (l : List Wd) (w : Wd) : wdsCells (l ++ [w]) = wdsCells l ++ wdCells w := by simp [wdsCells]
set_option maxRecDepth 10000 in
theorem front_ok (C : Codes tab) (E : ExtIdx tab) {s : List Nat} {aw : AW} {K : V → AW → Prop} (hb : ∀ x ∈ s, x < 256) (hs : s.length ≤ 1099511627776)
    (h : ∀ v aw', Own aw.next aw' v 3 (scan 0 s).1.length (wdsCells (scan 0 s).1) → Ext aw.next aw aw' → K (.tuple [v, .bool (scan 0 s).2]) aw') : WF tab n_lex_Front [.str s] aw K := by
  refine WF_of C.c_lex_Front rfl ?_
  have hs2 : s.length ≤ 4611686018427387904 := by omega
  obtain ⟨l, ok, hres⟩ : ∃ l ok, scan 0 s = (l, ok) := ⟨_, _, rfl⟩
  rw [hres] at h
  simp only at h
  refine WS_run 1000 (by simp only [go_sem, eRun_exit, simprocAttr, k_lex_Front]; rfl) ?_
  refine WS_call (by simp only [go_sem, eRun_exit, simprocAttr]) (by simp only [go_sem, eRun_exit, simprocAttr]; rfl) ?_
  refine blank_ok C E hb hs2 ?_
  refine WS_run 1000 (by simp only [go_sem, eRun_exit, simprocAttr]; rfl) ?_
  refine WS_loop (fun n f w => ∃ i v done, f.get 0 = some (.str s) ∧ f.get 5 = some (.int .i64 (Int.ofNat i)) ∧ f.get 4 = some v ∧ Own aw.next w v 3 done.length (wdsCells done) ∧ Ext aw.next aw w ∧ i ≤ s.length ∧ blk false (s.drop i) = 0 ∧
    (l, ok) = (done ++ (scan i (s.drop i)).1, (scan i (s.drop i)).2) ∧ done.length ≤ i ∧ n = s.length - i) ?_ (s.length - blk false s) ⟨blk false s, .nilslice, [], (by simp only [go_sem, eRun_exit, simprocAttr] <;> rfl), (by simp only [go_sem, eRun_exit, simprocAttr] <;> rfl), (by simp only [go_sem, eRun_exit, simprocAttr] <;> rfl), .nil, Ext.refl aw, blk_le _ _, blk_drop _ _, ?_, by simp, rfl⟩
  · rintro n f w ⟨i, v, done, f0, f5, f4, hown, hext, hi, hbl, hsc, hdl, rfl⟩ ih
    by_cases hlt : i < s.length
    · obtain ⟨c, t, hd⟩ : ∃ c t, s.drop i = c :: t := ⟨_, _, List.drop_eq_getElem_cons hlt⟩
      have hle := lexWord_le (c :: t)
      have hlen : (c :: t).length = s.length - i := by rw [← hd]; simp
      rw [scan_eq, hbl, List.drop_zero, hd] at hsc
      simp only [Nat.add_zero] at hsc
      refine WS_run 1000 (by simp only [go_sem, eRun_exit, simprocAttr, k_lex_Front_p1, k_lex_Front_p0, f0, f5, hlt, hi]; rfl) ?_
      refine WS_call (by simp only [go_sem, eRun_exit, simprocAttr]) (by simp only [go_sem, eRun_exit, simprocAttr]; rfl) ?_
      rw [hd]
      refine lex_word_ok (c := c) (t := t) C (by omega) ?_
      intro w1 hx1
      generalize hlw : lexWord (c :: t) = lw at hle hsc
      obtain ⟨k, m⟩ := lw
      simp only at hle hsc
      have hble : blk false (s.drop (i + m)) ≤ s.length - (i + m) := by have := blk_le false (s.drop (i + m)); simpa using this
      -- does it go on?
      by_cases hbad : m = 0 ∨ (k ≠ 4 ∧ 16 < m)
      · rw [if_pos hbad] at hsc
        have fin : K (.tuple [v, .bool false]) w1 := by
          have e1 : l = done := by simpa using (Prod.mk.inj hsc).1
          have e2 : ok = false := (Prod.mk.inj hsc).2
          have := h v w1 (by rw [e1]; exact hown.ext (Nat.le_refl _) hx1) (hext.trans (hx1.mono hext.le'))
          rwa [e2] at this
        by_cases hm : m = 0
        · refine WS_run 1000 (by simp only [go_sem, eRun_exit, simprocAttr, f4, hm]; rfl) ?_
          refine WS_ret ⟨_, by simp only [go_sem, eRun_exit, simprocAttr, k_lex_Front]; rfl, ?_⟩
          exact fin
        · obtain ⟨hk4, hm16⟩ := hbad.resolve_left hm
          refine WS_run 1000 (by simp only [go_sem, eRun_exit, simprocAttr, f4, hm, hk4, hm16]; rfl) ?_
          refine WS_ret ⟨_, by simp only [go_sem, eRun_exit, simprocAttr, k_lex_Front]; rfl, ?_⟩
          exact fin
      · rw [if_neg hbad] at hsc
        have hm : ¬ m = 0 := fun he => hbad (.inl he)
        have hw1 : IntKind.wrap .i64 (Int.ofNat i + Int.ofNat m) = Int.ofNat (i + m) := wrap_add (by omega)
        have hc1 : i + m ≤ s.length := by omega
        have hc2 : i ≤ i + m := Nat.le_add_right _ _
        have hown1 := hown.ext (Nat.le_refl _) hx1
        have hN1 : aw.next ≤ w1.next := Nat.le_trans hext.le' hx1.next
        obtain ⟨v2, w2, happ, hown2, hx2⟩ := hown1.push (bytes := 32) hN1 (by omega) (news := wdCells ⟨k, (s.drop i).take m, i⟩) rfl rfl (by omega) (by omega)
        have hel := elems_fresh (w := w1) (esz := 3) (n := 1) (c := .known 1) (cs := wdCells ⟨k, (s.drop i).take m, i⟩) (by omega) rfl
        simp only [wdCells] at happ hel
        by_cases h4 : k = 4
        · subst h4
          have h16 : True := trivial
          have h4 : True := trivial
          refine WS_run 1000 (by simp only [go_sem, eRun_exit, Nat.reduceAdd, Nat.reduceLT, Nat.reduceEqDiff, reduceIte, reduceCtorEq, Int.reduceLT, Int.reduceBEq, Int.reduceGE, Int.reduceEq, Int.reduceAdd, Nat.reduceLeDiff, f0, f5, f4, hm, h4, h16, hw1, hc1, hc2, k_lex_Front_p1, evParts, fillV, V.cells, over, List.length_cons, List.length_nil, hel, happ]; rfl) ?_
          refine WS_call (by simp only [go_sem, eRun_exit, Nat.reduceAdd, Nat.reduceLT, Nat.reduceEqDiff, reduceIte, reduceCtorEq, Int.reduceBEq, Int.reduceBNe, Int.reduceLT, Int.reduceLE, Int.reduceGT, Int.reduceGE, Int.reduceEq, Int.reduceAdd, Int.reduceSub, Int.reduceMul, Nat.reduceMul, Nat.reduceSub, Nat.reduceLeDiff]) (by simp only [go_sem, eRun_exit, Nat.reduceAdd, Nat.reduceLT, Nat.reduceEqDiff, reduceIte, reduceCtorEq, Int.reduceBEq, Int.reduceBNe, Int.reduceLT, Int.reduceLE, Int.reduceGT, Int.reduceGE, Int.reduceEq, Int.reduceAdd, Int.reduceSub, Int.reduceMul, Nat.reduceMul, Nat.reduceSub, Nat.reduceLeDiff]; rfl) ?_
          refine blank_ok C E (fun x hx => hb x (List.mem_of_mem_drop hx)) (by simp only [List.length_drop]; omega) ?_
          have hw2 : IntKind.wrap .i64 (Int.ofNat (i + m) + Int.ofNat (blk false (s.drop (i + m)))) = Int.ofNat (i + m + blk false (s.drop (i + m))) := wrap_add (by omega)
          refine WS_run 1000 (by simp only [go_sem, eRun_exit, simprocAttr, hw2]; rfl) ?_
          refine ih (s.length - (i + m + blk false (s.drop (i + m)))) _ _ (by omega) ⟨i + m + blk false (s.drop (i + m)), v2, done ++ [⟨4, (s.drop i).take m, i⟩], (by simp only [go_sem, eRun_exit, simprocAttr, f0] <;> rfl), (by simp only [go_sem, eRun_exit, simprocAttr] <;> rfl), (by simp only [go_sem, eRun_exit, simprocAttr] <;> rfl), ?_, hext.trans ((hx1.mono hext.le').trans hx2), by omega, ?_, ?_, by simp only [List.length_append, List.length_cons, List.length_nil]; omega, rfl⟩
          · rw [wdsCells_snoc, List.length_append]; exact hown2
          · rw [← List.drop_drop]; exact blk_drop _ _
          · rw [hsc, hd]
            have hdr : (c :: t).drop m = s.drop (i + m) := by rw [← hd, List.drop_drop]
            rw [hdr, scan_skip (i + m) (s.drop (i + m)) (blk false (s.drop (i + m))) (by rw [blk_drop]; omega), List.drop_drop]
            simp
        · have h16 : ¬ 16 < m := fun hh => hbad (.inr ⟨h4, hh⟩)
          refine WS_run 1000 (by simp only [go_sem, eRun_exit, simprocAttr, f0, f5, f4, hm, h4, h16, hw1, hc1, hc2, k_lex_Front_p1, evParts, fillV, V.cells, over, List.length_cons, List.length_nil, hel, happ]; rfl) ?_
          refine WS_call (by simp only [go_sem, eRun_exit, simprocAttr]) (by simp only [go_sem, eRun_exit, simprocAttr]; rfl) ?_
          refine blank_ok C E (fun x hx => hb x (List.mem_of_mem_drop hx)) (by simp only [List.length_drop]; omega) ?_
          have hw2 : IntKind.wrap .i64 (Int.ofNat (i + m) + Int.ofNat (blk false (s.drop (i + m)))) = Int.ofNat (i + m + blk false (s.drop (i + m))) := wrap_add (by omega)
          refine WS_run 1000 (by simp only [go_sem, eRun_exit, simprocAttr, hw2]; rfl) ?_
          refine ih (s.length - (i + m + blk false (s.drop (i + m)))) _ _ (by omega) ⟨i + m + blk false (s.drop (i + m)), v2, done ++ [⟨k, (s.drop i).take m, i⟩], (by simp only [go_sem, eRun_exit, simprocAttr, f0] <;> rfl), (by simp only [go_sem, eRun_exit, simprocAttr] <;> rfl), (by simp only [go_sem, eRun_exit, simprocAttr] <;> rfl), ?_, hext.trans ((hx1.mono hext.le').trans hx2), by omega, ?_, ?_, by simp only [List.length_append, List.length_cons, List.length_nil]; omega, rfl⟩
          · rw [wdsCells_snoc, List.length_append]; exact hown2
          · rw [← List.drop_drop]; exact blk_drop _ _
          · rw [hsc, hd]
            have hdr : (c :: t).drop m = s.drop (i + m) := by rw [← hd, List.drop_drop]
            rw [hdr, scan_skip (i + m) (s.drop (i + m)) (blk false (s.drop (i + m))) (by rw [blk_drop]; omega), List.drop_drop]
            simp
    · have : i = s.length := by omega
      subst this
      refine WS_run 1000 (by simp only [go_sem, eRun_exit, simprocAttr, k_lex_Front_p1, f0, f5, f4, hlt]; rfl) ?_
      refine WS_ret ⟨_, by simp only [go_sem, eRun_exit, simprocAttr, k_lex_Front]; rfl, ?_⟩
      rw [List.drop_length] at hsc
      have hz : scan s.length ([] : List Nat) = ([], true) := by rw [scan_eq]; rfl
      rw [hz] at hsc
      have e1 : l = done := by simpa using (Prod.mk.inj hsc).1
      have e2 : ok = true := (Prod.mk.inj hsc).2
      have := h v w (by rw [e1]; exact hown) hext
      rw [e2] at this
      exact this
  · rw [← hres, scan_skip 0 s (blk false s) (by rw [blk_drop]; omega)]; simp
end Go.Proofs.YtegdcbdicpfbpaaGreatDoor
set_option linter.unusedVariables false
set_option linter.unusedSimpArgs false
namespace Go.Proofs.YtegdcbdicpfbpaaGreatDoor
open Go.AE Delphi
variable {tab : Tab}
theorem rsmall_ok (C : Codes tab) {c : Nat} {aw : AW} {K : V → AW → Prop} (h : K (.bool (isSmall c)) aw) : WF tab n_ref8_small [.int .u8 (Int.ofNat c)] aw K := by
  refine WF_of C.c_ref8_small rfl ?_
  unfold isSmall at h
  cases h1 : decide (97 ≤ c) <;> rw [h1] at h <;> refine WS_run 1000 (by simp only [go_sem, eRun_exit, simprocAttr, k_ref8_small, h1]; rfl) ?_ <;> refine WS_ret ⟨_, by simp only [go_sem, eRun_exit, simprocAttr, k_ref8_small]; rfl, ?_⟩ <;> exact h
theorem rdigit_ok (C : Codes tab) {c : Nat} {aw : AW} {K : V → AW → Prop} (h : K (.bool (isDigit c)) aw) : WF tab n_ref8_digit [.int .u8 (Int.ofNat c)] aw K := by
  refine WF_of C.c_ref8_digit rfl ?_
  unfold isDigit at h
  cases h1 : decide (48 ≤ c) <;> rw [h1] at h <;> refine WS_run 1000 (by simp only [go_sem, eRun_exit, simprocAttr, k_ref8_digit, h1]; rfl) ?_ <;> refine WS_ret ⟨_, by simp only [go_sem, eRun_exit, simprocAttr, k_ref8_digit]; rfl, ?_⟩ <;> exact h
theorem rgreat_ok (C : Codes tab) {c : Nat} {aw : AW} {K : V → AW → Prop} (h : K (.bool (isGreat c)) aw) : WF tab n_ref8_great [.int .u8 (Int.ofNat c)] aw K := by
  refine WF_of C.c_ref8_great rfl ?_
  unfold isGreat at h
  cases h1 : decide (65 ≤ c) <;> rw [h1] at h <;> refine WS_run 1000 (by simp only [go_sem, eRun_exit, simprocAttr, k_ref8_great, h1]; rfl) ?_ <;> refine WS_ret ⟨_, by simp only [go_sem, eRun_exit, simprocAttr, k_ref8_great]; rfl, ?_⟩ <;> exact h
theorem rl0 (C : Codes tab) {c : Nat} {t : List Nat} {S : List SI} {Q : Fr → AW → Prop} {fr : Fr} {aw : AW} (hs : (c :: t).length ≤ 4611686018427387904) {k0 : Nat}
    (hk0' : k0 ≤ (c :: t).length) (f0 : fr.get 0 = some (.str (c :: t))) (f4 : fr.get 4 = some (.int .i64 (Int.ofNat k0)))
    (h : ∀ f, f.get 0 = some (.str (c :: t)) → f.get 4 = some (.int .i64 (Int.ofNat ((k0 + (((c :: t).drop k0).takeWhile isNamed).length)))) → WS tab S f aw Q) :
    WS tab (.code (.loop k_ref8_word_p0) :: .endB 1 :: S) fr aw Q := by
  refine WS_loop (fun n f w => ∃ k, f.get 0 = some (.str (c :: t)) ∧ f.get 4 = some (.int .i64 (Int.ofNat k)) ∧ k0 + (((c :: t).drop k0).takeWhile isNamed).length = k + (((c :: t).drop k).takeWhile isNamed).length ∧ k ≤ (c :: t).length ∧ n = (c :: t).length - k ∧ w = aw) ?_ ((c :: t).length - k0) ⟨k0, f0, f4, rfl, hk0', rfl, rfl⟩
  rintro n f w ⟨k, f0, f4, hk, hkl, rfl, rfl⟩ ih
  generalize hS : c :: t = s at *
  by_cases hlt : k < s.length
  · obtain ⟨d, hc⟩ : ∃ d, s[k]? = some d := ⟨_, List.getElem?_eq_getElem hlt⟩
    have hd : s.drop k = d :: s.drop (k + 1) := by
      rw [List.drop_eq_getElem_cons hlt]; rw [List.getElem?_eq_getElem hlt] at hc; rw [Option.some.inj hc]
    have hw : IntKind.wrap .i64 (Int.ofNat k + 1) = Int.ofNat (k + 1) := wrap_succ (by omega)
    have yes : isNamed d = true → ∀ f', f'.get 0 = some (.str s) → f'.get 4 = some (.int .i64 (Int.ofNat (k + 1))) → WS tab (.code (.loop k_ref8_word_p0) :: .endB 1 :: S) f' w Q := by
      intro hp f' g0 g4
      refine ih (s.length - (k + 1)) _ _ (by omega) ⟨k + 1, g0, g4, ?_, by omega, rfl, rfl⟩
      rw [hk, hd, List.takeWhile_cons_of_pos hp, List.length_cons]; omega
    have no : isNamed d = false → ∀ f', f'.get 0 = some (.str s) → f'.get 4 = some (.int .i64 (Int.ofNat k)) → WS tab S f' w Q := by
      intro hp f' g0 g4
      refine h f' g0 ?_
      rw [hk, hd, List.takeWhile_cons_of_neg (by simp [hp])]; simpa using g4
    refine WS_run 1000 (by simp only [go_sem, eRun_exit, simprocAttr, k_ref8_word_p0, f0, f4, hlt, hc]; rfl) ?_
    refine WS_call (by simp only [go_sem, eRun_exit, simprocAttr]) (by simp only [go_sem, eRun_exit, simprocAttr]; rfl) ?_
    refine rsmall_ok C ?_
    cases q1 : isSmall d with
    | true =>
      refine WS_run 1000 (by simp only [go_sem, eRun_exit, simprocAttr, f4, hw]; rfl) ?_
      exact yes (by simp [isNamed, q1]) _ (by simp only [go_sem, eRun_exit, simprocAttr, f0] <;> rfl) (by simp only [go_sem, eRun_exit, simprocAttr] <;> rfl)
    | false =>
      refine WS_run 1000 (by simp only [go_sem, eRun_exit, simprocAttr, f0, f4, hc]; rfl) ?_
      refine WS_call (by simp only [go_sem, eRun_exit, simprocAttr]) (by simp only [go_sem, eRun_exit, simprocAttr]; rfl) ?_
      refine rdigit_ok C ?_
      cases q2 : isDigit d with
      | true =>
        refine WS_run 1000 (by simp only [go_sem, eRun_exit, simprocAttr, f4, hw]; rfl) ?_
        exact yes (by simp [isNamed, q1, q2]) _ (by simp only [go_sem, eRun_exit, simprocAttr, f0] <;> rfl) (by simp only [go_sem, eRun_exit, simprocAttr] <;> rfl)
      | false =>
        by_cases h95 : d = 95
        · refine WS_run 1000 (by simp only [go_sem, eRun_exit, simprocAttr, f0, f4, hc, h95, hw]; rfl) ?_
          exact yes (by simp [isNamed, q1, q2, h95]) _ (by simp only [go_sem, eRun_exit, simprocAttr, f0] <;> rfl) (by simp only [go_sem, eRun_exit, simprocAttr] <;> rfl)
        · refine WS_runB 1000 (by simp only [go_sem, eRun_exit, simprocAttr, f0, f4, hc, h95]; rfl) ?_
          exact no (by simp [isNamed, q1, q2, h95]) _ (by simp only [go_sem, eRun_exit, simprocAttr, f0] <;> rfl) (by simp only [go_sem, eRun_exit, simprocAttr, f4] <;> rfl)
  · refine WS_runB 1000 (by simp only [go_sem, eRun_exit, simprocAttr, k_ref8_word_p0, f0, f4, hlt]; rfl) ?_
    refine h _ (by simp only [go_sem, eRun_exit, simprocAttr, f0] <;> rfl) ?_
    have : k = s.length := by omega
    subst this
    rw [hk, List.drop_length]
    exact (by simp only [go_sem, eRun_exit, simprocAttr, f4] <;> rfl)
theorem rl1 (C : Codes tab) {c : Nat} {t : List Nat} {S : List SI} {Q : Fr → AW → Prop} {fr : Fr} {aw : AW} (hs : (c :: t).length ≤ 4611686018427387904) {k0 : Nat}
    (hk0' : k0 ≤ (c :: t).length) (f0 : fr.get 0 = some (.str (c :: t))) (f4 : fr.get 4 = some (.int .i64 (Int.ofNat k0)))
    (h : ∀ f, f.get 0 = some (.str (c :: t)) → f.get 4 = some (.int .i64 (Int.ofNat ((k0 + (((c :: t).drop k0).takeWhile isVarC).length)))) → WS tab S f aw Q) :
    WS tab (.code (.loop k_ref8_word_p1) :: .endB 3 :: S) fr aw Q := by
  refine WS_loop (fun n f w => ∃ k, f.get 0 = some (.str (c :: t)) ∧ f.get 4 = some (.int .i64 (Int.ofNat k)) ∧ k0 + (((c :: t).drop k0).takeWhile isVarC).length = k + (((c :: t).drop k).takeWhile isVarC).length ∧ k ≤ (c :: t).length ∧ n = (c :: t).length - k ∧ w = aw) ?_ ((c :: t).length - k0) ⟨k0, f0, f4, rfl, hk0', rfl, rfl⟩
  rintro n f w ⟨k, f0, f4, hk, hkl, rfl, rfl⟩ ih
  generalize hS : c :: t = s at *
  by_cases hlt : k < s.length
  · obtain ⟨d, hc⟩ : ∃ d, s[k]? = some d := ⟨_, List.getElem?_eq_getElem hlt⟩
    have hd : s.drop k = d :: s.drop (k + 1) := by
      rw [List.drop_eq_getElem_cons hlt]; rw [List.getElem?_eq_getElem hlt] at hc; rw [Option.some.inj hc]
    have hw : IntKind.wrap .i64 (Int.ofNat k + 1) = Int.ofNat (k + 1) := wrap_succ (by omega)
    have yes : isVarC d = true → ∀ f', f'.get 0 = some (.str s) → f'.get 4 = some (.int .i64 (Int.ofNat (k + 1))) → WS tab (.code (.loop k_ref8_word_p1) :: .endB 3 :: S) f' w Q := by
      intro hp f' g0 g4
      refine ih (s.length - (k + 1)) _ _ (by omega) ⟨k + 1, g0, g4, ?_, by omega, rfl, rfl⟩
      rw [hk, hd, List.takeWhile_cons_of_pos hp, List.length_cons]; omega
    have no : isVarC d = false → ∀ f', f'.get 0 = some (.str s) → f'.get 4 = some (.int .i64 (Int.ofNat k)) → WS tab S f' w Q := by
      intro hp f' g0 g4
      refine h f' g0 ?_
      rw [hk, hd, List.takeWhile_cons_of_neg (by simp [hp])]; simpa using g4
    refine WS_run 1000 (by simp only [go_sem, eRun_exit, simprocAttr, k_ref8_word_p1, f0, f4, hlt, hc]; rfl) ?_
    refine WS_call (by simp only [go_sem, eRun_exit, simprocAttr]) (by simp only [go_sem, eRun_exit, simprocAttr]; rfl) ?_
    refine rsmall_ok C ?_
    cases q1 : isSmall d with
    | true =>
      refine WS_run 1000 (by simp only [go_sem, eRun_exit, simprocAttr, f4, hw]; rfl) ?_
      exact yes (by simp [isVarC, isNamed, q1]) _ (by simp only [go_sem, eRun_exit, simprocAttr, f0] <;> rfl) (by simp only [go_sem, eRun_exit, simprocAttr] <;> rfl)
    | false =>
      refine WS_run 1000 (by simp only [go_sem, eRun_exit, simprocAttr, f0, f4, hc]; rfl) ?_
      refine WS_call (by simp only [go_sem, eRun_exit, simprocAttr]) (by simp only [go_sem, eRun_exit, simprocAttr]; rfl) ?_
      refine rgreat_ok C ?_
      cases q2 : isGreat d with
      | true =>
        refine WS_run 1000 (by simp only [go_sem, eRun_exit, simprocAttr, f4, hw]; rfl) ?_
        exact yes (by simp [isVarC, isNamed, q1, q2]) _ (by simp only [go_sem, eRun_exit, simprocAttr, f0] <;> rfl) (by simp only [go_sem, eRun_exit, simprocAttr] <;> rfl)
      | false =>
        refine WS_run 1000 (by simp only [go_sem, eRun_exit, simprocAttr, f0, f4, hc]; rfl) ?_
        refine WS_call (by simp only [go_sem, eRun_exit, simprocAttr]) (by simp only [go_sem, eRun_exit, simprocAttr]; rfl) ?_
        refine rdigit_ok C ?_
        cases q3 : isDigit d with
        | true =>
          refine WS_run 1000 (by simp only [go_sem, eRun_exit, simprocAttr, f4, hw]; rfl) ?_
          exact yes (by simp [isVarC, isNamed, q1, q2, q3]) _ (by simp only [go_sem, eRun_exit, simprocAttr, f0] <;> rfl) (by simp only [go_sem, eRun_exit, simprocAttr] <;> rfl)
        | false =>
          by_cases h95 : d = 95
          · refine WS_run 1000 (by simp only [go_sem, eRun_exit, simprocAttr, f0, f4, hc, h95, hw]; rfl) ?_
            exact yes (by simp [isVarC, isNamed, q1, q2, q3, h95]) _ (by simp only [go_sem, eRun_exit, simprocAttr, f0] <;> rfl) (by simp only [go_sem, eRun_exit, simprocAttr] <;> rfl)
          · refine WS_runB 1000 (by simp only [go_sem, eRun_exit, simprocAttr, f0, f4, hc, h95]; rfl) ?_
            exact no (by simp [isVarC, isNamed, q1, q2, q3, h95]) _ (by simp only [go_sem, eRun_exit, simprocAttr, f0] <;> rfl) (by simp only [go_sem, eRun_exit, simprocAttr, f4] <;> rfl)
  · refine WS_runB 1000 (by simp only [go_sem, eRun_exit, simprocAttr, k_ref8_word_p1, f0, f4, hlt]; rfl) ?_
    refine h _ (by simp only [go_sem, eRun_exit, simprocAttr, f0] <;> rfl) ?_
    have : k = s.length := by omega
    subst this
    rw [hk, List.drop_length]
    exact (by simp only [go_sem, eRun_exit, simprocAttr, f4] <;> rfl)
theorem rl3 (C : Codes tab) {c : Nat} {t : List Nat} {S : List SI} {Q : Fr → AW → Prop} {fr : Fr} {aw : AW} (hs : (c :: t).length ≤ 4611686018427387904) {k0 : Nat}
    (hk0' : k0 ≤ (c :: t).length) (f0 : fr.get 0 = some (.str (c :: t))) (f4 : fr.get 4 = some (.int .i64 (Int.ofNat k0)))
    (h : ∀ f, f.get 0 = some (.str (c :: t)) → f.get 4 = some (.int .i64 (Int.ofNat ((k0 + (((c :: t).drop k0).takeWhile isDigit).length)))) → WS tab S f aw Q) :
    WS tab (.code (.loop k_ref8_word_p3) :: .endB 5 :: S) fr aw Q := by
  refine WS_loop (fun n f w => ∃ k, f.get 0 = some (.str (c :: t)) ∧ f.get 4 = some (.int .i64 (Int.ofNat k)) ∧ k0 + (((c :: t).drop k0).takeWhile isDigit).length = k + (((c :: t).drop k).takeWhile isDigit).length ∧ k ≤ (c :: t).length ∧ n = (c :: t).length - k ∧ w = aw) ?_ ((c :: t).length - k0) ⟨k0, f0, f4, rfl, hk0', rfl, rfl⟩
  rintro n f w ⟨k, f0, f4, hk, hkl, rfl, rfl⟩ ih
  generalize hS : c :: t = s at *
  by_cases hlt : k < s.length
  · obtain ⟨d, hc⟩ : ∃ d, s[k]? = some d := ⟨_, List.getElem?_eq_getElem hlt⟩
    have hd : s.drop k = d :: s.drop (k + 1) := by
      rw [List.drop_eq_getElem_cons hlt]; rw [List.getElem?_eq_getElem hlt] at hc; rw [Option.some.inj hc]
    have hw : IntKind.wrap .i64 (Int.ofNat k + 1) = Int.ofNat (k + 1) := wrap_succ (by omega)
    have yes : isDigit d = true → ∀ f', f'.get 0 = some (.str s) → f'.get 4 = some (.int .i64 (Int.ofNat (k + 1))) → WS tab (.code (.loop k_ref8_word_p3) :: .endB 5 :: S) f' w Q := by
      intro hp f' g0 g4
      refine ih (s.length - (k + 1)) _ _ (by omega) ⟨k + 1, g0, g4, ?_, by omega, rfl, rfl⟩
      rw [hk, hd, List.takeWhile_cons_of_pos hp, List.length_cons]; omega
    have no : isDigit d = false → ∀ f', f'.get 0 = some (.str s) → f'.get 4 = some (.int .i64 (Int.ofNat k)) → WS tab S f' w Q := by
      intro hp f' g0 g4
      refine h f' g0 ?_
      rw [hk, hd, List.takeWhile_cons_of_neg (by simp [hp])]; simpa using g4
    refine WS_run 1000 (by simp only [go_sem, eRun_exit, simprocAttr, k_ref8_word_p3, f0, f4, hlt, hc]; rfl) ?_
    refine WS_call (by simp only [go_sem, eRun_exit, simprocAttr]) (by simp only [go_sem, eRun_exit, simprocAttr]; rfl) ?_
    refine rdigit_ok C ?_
    cases q1 : isDigit d with
    | true =>
      refine WS_run 1000 (by simp only [go_sem, eRun_exit, simprocAttr, f4, hw]; rfl) ?_
      exact yes (by simp [q1]) _ (by simp only [go_sem, eRun_exit, simprocAttr, f0] <;> rfl) (by simp only [go_sem, eRun_exit, simprocAttr] <;> rfl)
    | false =>
      refine WS_runB 1000 (by simp only [go_sem, eRun_exit, simprocAttr]; rfl) ?_
      exact no (by simp [q1]) _ (by simp only [go_sem, eRun_exit, simprocAttr, f0] <;> rfl) (by simp only [go_sem, eRun_exit, simprocAttr, f4] <;> rfl)
  · refine WS_runB 1000 (by simp only [go_sem, eRun_exit, simprocAttr, k_ref8_word_p3, f0, f4, hlt]; rfl) ?_
    refine h _ (by simp only [go_sem, eRun_exit, simprocAttr, f0] <;> rfl) ?_
    have : k = s.length := by omega
    subst this
    rw [hk, List.drop_length]
    exact (by simp only [go_sem, eRun_exit, simprocAttr, f4] <;> rfl)
end Go.Proofs.YtegdcbdicpfbpaaGreatDoor
set_option linter.unusedVariables false
set_option linter.unusedSimpArgs false
namespace Go.Proofs.YtegdcbdicpfbpaaGreatDoor
open Go.AE Delphi
variable {tab : Tab}
def twos : List (List Nat) := [[58, 45], [33, 61], [60, 61]]
def ones : List (List Nat) := [[40], [41], [44], [46], [33], [61], [60]]
theorem signs_find (p : List Nat → Bool) : signs.find? p = (match twos.find? p with | some g => some g | none => ones.find? p) := by
  show (twos ++ ones).find? p = _
  rw [List.find?_append]
  cases twos.find? p <;> rfl
def isOne (c : Nat) : Bool := decide (c = 40) || (decide (c = 41) || (decide (c = 44) || (decide (c = 46) || (decide (c = 33) || (decide (c = 61) || decide (c = 60))))))
theorem ones_find (c : Nat) (t : List Nat) : ones.find? (fun g => g.isPrefixOf (c :: t)) = if isOne c then some [c] else none := by
  simp only [ones, isOne]
  by_cases h1 : c = 40
  · subst h1; rfl
  by_cases h2 : c = 41
  · subst h2; rfl
  by_cases h3 : c = 44
  · subst h3; rfl
  by_cases h4 : c = 46
  · subst h4; rfl
  by_cases h5 : c = 33
  · subst h5; rfl
  by_cases h6 : c = 61
  · subst h6; rfl
  by_cases h7 : c = 60
  · subst h7; rfl
  have e : ∀ n : Nat, ¬ c = n → (n == c) = false := fun n hn => beq_eq_false_iff_ne.2 (Ne.symm hn)
  simp [List.find?, List.isPrefixOf, h1, h2, h3, h4, h5, h6, h7, e 40 h1, e 41 h2, e 44 h3, e 46 h4, e 33 h5, e 61 h6, e 60 h7]
theorem two_prefix {g s : List Nat} (hg : g.length = 2) : g.isPrefixOf s = (decide (2 ≤ s.length) && eqL (s.take 2) g) := by
  rw [isPrefix_take, hg]
def k48s : ACode := (.seq (.region [⟨some 112, none, .buildSlice 3 [(.str []), (.str []), (.str [])] [(0, 1, (.const (.str [58, 45]))), (1, 1, (.const (.str [33, 61]))), (2, 1, (.const (.str [60, 61])))]⟩,
  ⟨some 5, none, .mov (.tmp 112)⟩])
 (.seq (.seq (.region [⟨some 6, none, .mov (.const (.int .i64 0))⟩])
 (.block 7 (.loop k_ref8_word_p9)))
 (.seq (.seq (.region [⟨some 129, none, .mov (.tmp 0)⟩,
  ⟨some 130, none, .indexStr (.tmp 129) (.const (.int .i64 0))⟩])
 (.block 9 k_ref8_word_p13))
 (.seq (.region [⟨some 2, none, .mov (.const (.int .i64 0))⟩,
  ⟨some 3, none, .mov (.const (.int .i64 0))⟩])
 .ret))))
set_option maxRecDepth 10000 in
theorem rword_ok (C : Codes tab) {c : Nat} {t : List Nat} {aw : AW} {K : V → AW → Prop} (hs : (c :: t).length ≤ 4611686018427387904)
    (h : ∀ kind aw', ((lexWord (c :: t)).2 ≠ 0 → kind = (lexWord (c :: t)).1) → Ext aw.next aw aw' → K (.tuple [.int .i64 (Int.ofNat (lexWord (c :: t)).2), .int .i64 (Int.ofNat kind)]) aw') : WF tab n_ref8_word [.str (c :: t)] aw K := by
  refine WF_of C.c_ref8_word rfl ?_
  have h1l : 1 ≤ (c :: t).length := by simp
  refine WS_run 1000 (by simp only [go_sem, eRun_exit, simprocAttr, k_ref8_word, k_ref8_word_p7]; rfl) ?_
  refine WS_call (by simp only [go_sem, eRun_exit, simprocAttr]) (by simp only [go_sem, eRun_exit, simprocAttr]; rfl) ?_
  refine rsmall_ok C ?_
  cases h1 : isSmall c with
  | true =>
    have hl : lexWord (c :: t) = (1, 1 + (t.takeWhile isNamed).length) := by
      have : isNamed c = true := by simp [isNamed, h1]
      simp only [lexWord, h1, if_true, List.takeWhile_cons_of_pos this, List.length_cons, Nat.add_comm]
    rw [hl] at h
    refine WS_run 1000 (by simp only [go_sem, eRun_exit, simprocAttr]; rfl) ?_
    refine rl0 C hs h1l (by simp only [go_sem, eRun_exit, simprocAttr] <;> rfl) (by simp only [go_sem, eRun_exit, simprocAttr] <;> rfl) ?_
    intro f f0 f4
    simp only [List.drop_succ_cons, List.drop_zero] at f4
    refine WS_run 1000 (by simp only [go_sem, eRun_exit, simprocAttr, f4]; rfl) ?_
    refine WS_ret ⟨_, by simp only [go_sem, eRun_exit, simprocAttr, k_ref8_word]; rfl, ?_⟩
    exact h 1 aw (fun _ => rfl) (Ext.refl aw)
  | false =>
    refine WS_run 1000 (by simp only [go_sem, eRun_exit, simprocAttr, k_ref8_word_p6]; rfl) ?_
    refine WS_call (by simp only [go_sem, eRun_exit, simprocAttr]) (by simp only [go_sem, eRun_exit, simprocAttr]; rfl) ?_
    refine rgreat_ok C ?_
    cases h2 : isGreat c with
    | true =>
      have hl : lexWord (c :: t) = (2, 1 + (t.takeWhile isVarC).length) := by
        have : isVarC c = true := by simp [isVarC, h2]
        simp only [lexWord, h1, h2, if_true, Bool.false_eq_true, if_false, List.takeWhile_cons_of_pos this, List.length_cons, Nat.add_comm]
      rw [hl] at h
      refine WS_run 1000 (by simp only [go_sem, eRun_exit, simprocAttr]; rfl) ?_
      refine rl1 C hs h1l (by simp only [go_sem, eRun_exit, simprocAttr] <;> rfl) (by simp only [go_sem, eRun_exit, simprocAttr] <;> rfl) ?_
      intro f f0 f4
      simp only [List.drop_succ_cons, List.drop_zero] at f4
      refine WS_run 1000 (by simp only [go_sem, eRun_exit, simprocAttr, f4]; rfl) ?_
      refine WS_ret ⟨_, by simp only [go_sem, eRun_exit, simprocAttr, k_ref8_word]; rfl, ?_⟩
      exact h 2 aw (fun _ => rfl) (Ext.refl aw)
    | false =>
      refine WS_run 1000 (by simp only [go_sem, eRun_exit, simprocAttr, k_ref8_word_p5]; rfl) ?_
      refine WS_call (by simp only [go_sem, eRun_exit, simprocAttr]) (by simp only [go_sem, eRun_exit, simprocAttr]; rfl) ?_
      refine rdigit_ok C ?_
      cases h3 : isDigit c with
      | true =>
        have h45 : ¬ c = 45 := by intro he; subst he; revert h3; decide
        have hd : (isDigit c || decide (c = 45)) = true := by simp [h3]
        have hl : lexWord (c :: t) = (3, if c = 48 then 1 else 1 + (t.takeWhile isDigit).length) := by
          simp only [lexWord, h1, h2, hd, if_true, Bool.false_eq_true, if_false, Prod.mk.injEq, true_and]
          unfold numberLen
          simp only [List.head?_cons, Option.some.injEq, h45, if_false, List.drop_zero, List.takeWhile_cons_of_pos h3, List.length_cons, List.getElem?_cons_zero]
          rw [if_neg (by omega), if_neg (by omega)]
          split
          · rfl
          · omega
        rw [hl] at h
        by_cases h48 : c = 48
        · refine WS_run 1000 (by simp only [go_sem, eRun_exit, simprocAttr, k_ref8_word_p4, h45, h48]; rfl) ?_
          refine WS_ret ⟨_, by simp only [go_sem, eRun_exit, simprocAttr, k_ref8_word]; rfl, ?_⟩
          rw [if_pos h48] at h
          exact h 3 aw (fun _ => rfl) (Ext.refl aw)
        · refine WS_run 1000 (by simp only [go_sem, eRun_exit, simprocAttr, k_ref8_word_p4, h45, h48]; rfl) ?_
          refine rl3 C hs h1l (by simp only [go_sem, eRun_exit, simprocAttr] <;> rfl) (by simp only [go_sem, eRun_exit, simprocAttr] <;> rfl) ?_
          intro f f0 f4
          simp only [List.drop_succ_cons, List.drop_zero] at f4
          refine WS_run 1000 (by simp only [go_sem, eRun_exit, simprocAttr, f4]; rfl) ?_
          refine WS_ret ⟨_, by simp only [go_sem, eRun_exit, simprocAttr, k_ref8_word]; rfl, ?_⟩
          rw [if_neg h48] at h
          exact h 3 aw (fun _ => rfl) (Ext.refl aw)
      | false =>
        -- no number: signs
        have hsg : ∀ fr : Fr, fr.get 0 = some (.str (c :: t)) → ((lexWord (c :: t)).2 = match signs.find? (fun g => g.isPrefixOf (c :: t)) with | some g => g.length | none => 0) → ((lexWord (c :: t)).2 ≠ 0 → (lexWord (c :: t)).1 = 4) →
            WS tab [.code k48s] fr aw (fun fr' aw' => ∃ vs, resV fr' aw' k_ref8_word.results = some vs ∧ K (resOne vs) aw') := by
          intro fr f0 hn hk
          rw [signs_find, ones_find] at hn
          refine WS_run 1000 (by simp only [go_sem, eRun_exit, simprocAttr, k48s, evParts, fillV, V.cells, List.length_cons, List.length_nil, over]; rfl) ?_
          have hload : ∀ (i : Nat) (g : List Nat), twos[i]? = some g → (aw.fresh [.str [58, 45], .str [33, 61], .str [60, 61]]).load aw.next (0 + i * 1) 1 = some [.str g] := by
            intro i g hg
            have hi : i < 3 := (List.getElem?_eq_some_iff.1 hg).1
            simp only [AW.load, AW.fresh, AW.new, T.get_putk, if_true, AW.alive, Nat.zero_add, Nat.mul_one]
            match i, hi with
            | 0, _ | 1, _ | 2, _ => simp [twos] at hg; subst hg; rfl
          have hext : Ext aw.next aw (aw.fresh [.str [58, 45], .str [33, 61], .str [60, 61]]) := Ext.new (Nat.le_refl _) _
          generalize aw.fresh [.str [58, 45], .str [33, 61], .str [60, 61]] = aw1 at hload hext
          refine WS_loop (fun n f w => ∃ i, f.get 0 = some (.str (c :: t)) ∧ f.get 5 = some (.slice aw.next 0 3 (.known 3)) ∧ f.get 6 = some (.int .i64 (Int.ofNat i)) ∧ twos.find? (fun g => g.isPrefixOf (c :: t)) = (twos.drop i).find? (fun g => g.isPrefixOf (c :: t)) ∧ i ≤ 3 ∧ n = 3 - i ∧ w = aw1) ?_ 3 ⟨0, (by simp only [go_sem, eRun_exit, simprocAttr, f0] <;> rfl), (by simp only [go_sem, eRun_exit, simprocAttr] <;> rfl), (by simp only [go_sem, eRun_exit, simprocAttr] <;> rfl), rfl, by omega, rfl, rfl⟩
          rintro n f w ⟨i, f0, f5, f6, hf, hi, rfl, rfl⟩ ih
          by_cases hlt : i < 3
          · obtain ⟨g, hg⟩ : ∃ g, twos[i]? = some g := ⟨_, List.getElem?_eq_getElem (by simpa [twos] using hlt)⟩
            have hd : twos.drop i = g :: twos.drop (i + 1) := by
              have hl : i < twos.length := by simpa [twos] using hlt
              rw [List.drop_eq_getElem_cons hl]
              rw [List.getElem?_eq_getElem hl] at hg
              rw [Option.some.inj hg]
            have hg2 : g.length = 2 := by
              have hm := List.mem_of_getElem? hg
              simp only [twos, List.mem_cons, List.not_mem_nil, or_false] at hm
              rcases hm with rfl | rfl | rfl <;> rfl
            have hld := hload i g hg
            have hw : IntKind.wrap .i64 (Int.ofNat i + 1) = Int.ofNat (i + 1) := wrap_succ (by omega)
            have next : g.isPrefixOf (c :: t) = false → ∀ f', f'.get 0 = some (.str (c :: t)) → f'.get 5 = some (.slice aw.next 0 3 (.known 3)) → f'.get 6 = some (.int .i64 (Int.ofNat (i + 1))) → WS tab _ f' w _ := fun hp f' g0 g5 g6 =>
              ih (3 - (i + 1)) f' w (by omega) ⟨i + 1, g0, g5, g6, by rw [hf, hd, List.find?_cons_of_neg (by simp [hp])], by omega, rfl, rfl⟩
            by_cases hl2 : 2 ≤ (c :: t).length
            · have hz : 0 ≤ 2 := by omega
              have hp := two_prefix (g := g) (s := c :: t) hg2
              rw [decide_eq_true hl2, Bool.true_and] at hp
              cases he : eqL ((c :: t).take 2) g with
              | true =>
                rw [he] at hp
                refine WS_run 1000 (by simp only [go_sem, eRun_exit, simprocAttr, k_ref8_word_p9, k_ref8_word_p8, f0, f5, f6, hlt, hl2, hz, hld, List.drop_zero, Nat.sub_zero, strS, he]; rfl) ?_
                refine WS_ret ⟨_, by simp only [go_sem, eRun_exit, simprocAttr, k_ref8_word]; rfl, ?_⟩
                rw [hf, hd, List.find?_cons_of_pos (by simpa using hp)] at hn
                simp only [hg2] at hn
                have := h 4 w (fun hne => (hk hne).symm) hext
                rw [hn] at this
                exact this
              | false =>
                rw [he] at hp
                refine WS_run 1000 (by simp only [go_sem, eRun_exit, simprocAttr, k_ref8_word_p9, k_ref8_word_p8, f0, f5, f6, hlt, hl2, hz, hld, List.drop_zero, Nat.sub_zero, strS, he, hw]; rfl) ?_
                exact next hp _ (by simp only [go_sem, eRun_exit, simprocAttr, f0] <;> rfl) (by simp only [go_sem, eRun_exit, simprocAttr, f5] <;> rfl) (by simp only [go_sem, eRun_exit, simprocAttr] <;> rfl)
            · have hp : g.isPrefixOf (c :: t) = false := by rw [two_prefix hg2, decide_eq_false hl2]; rfl
              refine WS_run 1000 (by simp only [go_sem, eRun_exit, simprocAttr, k_ref8_word_p9, k_ref8_word_p8, f0, f5, f6, hlt, hl2, hw]; rfl) ?_
              exact next hp _ (by simp only [go_sem, eRun_exit, simprocAttr, f0] <;> rfl) (by simp only [go_sem, eRun_exit, simprocAttr, f5] <;> rfl) (by simp only [go_sem, eRun_exit, simprocAttr] <;> rfl)
          · have : i = 3 := by omega
            subst this
            have hno : twos.find? (fun g => g.isPrefixOf (c :: t)) = none := by rw [hf]; rfl
            rw [hno] at hn
            simp only at hn
            refine WS_runB 1000 (by simp only [go_sem, eRun_exit, simprocAttr, k_ref8_word_p9, f0, f6, hlt]; rfl) ?_
            have yes : isOne c = true → K (.tuple [.int .i64 1, .int .i64 4]) w := by
              intro ho
              rw [if_pos ho] at hn
              simp only [List.length_cons, List.length_nil] at hn
              have := h 4 w (fun hne => (hk hne).symm) hext
              rw [hn] at this
              exact this
            have no : isOne c = false → K (.tuple [.int .i64 0, .int .i64 0]) w := by
              intro ho
              rw [ho] at hn
              simp only [Bool.false_eq_true, if_false] at hn
              have := h 0 w (fun hne => absurd hn hne) hext
              rw [hn] at this
              exact this
            unfold isOne at yes no
            by_cases c40 : c = 40
            · refine WS_run 1000 (by simp only [go_sem, eRun_exit, simprocAttr, k_ref8_word_p13, k_ref8_word_p12, k_ref8_word_p11, k_ref8_word_p10, f0, c40]; rfl) ?_
              refine WS_ret ⟨_, by simp only [go_sem, eRun_exit, simprocAttr, k_ref8_word]; rfl, ?_⟩
              exact yes (by simp [c40])
            by_cases c41 : c = 41
            · refine WS_run 1000 (by simp only [go_sem, eRun_exit, simprocAttr, k_ref8_word_p13, k_ref8_word_p12, k_ref8_word_p11, k_ref8_word_p10, f0, c40, c41]; rfl) ?_
              refine WS_ret ⟨_, by simp only [go_sem, eRun_exit, simprocAttr, k_ref8_word]; rfl, ?_⟩
              exact yes (by simp [c41])
            by_cases c44 : c = 44
            · refine WS_run 1000 (by simp only [go_sem, eRun_exit, simprocAttr, k_ref8_word_p13, k_ref8_word_p12, k_ref8_word_p11, k_ref8_word_p10, f0, c40, c41, c44]; rfl) ?_
              refine WS_ret ⟨_, by simp only [go_sem, eRun_exit, simprocAttr, k_ref8_word]; rfl, ?_⟩
              exact yes (by simp [c44])
            by_cases c46 : c = 46
            · refine WS_run 1000 (by simp only [go_sem, eRun_exit, simprocAttr, k_ref8_word_p13, k_ref8_word_p12, k_ref8_word_p11, k_ref8_word_p10, f0, c40, c41, c44, c46]; rfl) ?_
              refine WS_ret ⟨_, by simp only [go_sem, eRun_exit, simprocAttr, k_ref8_word]; rfl, ?_⟩
              exact yes (by simp [c46])
            by_cases c33 : c = 33
            · refine WS_run 1000 (by simp only [go_sem, eRun_exit, simprocAttr, k_ref8_word_p13, k_ref8_word_p12, k_ref8_word_p11, k_ref8_word_p10, f0, c40, c41, c44, c46, c33]; rfl) ?_
              refine WS_ret ⟨_, by simp only [go_sem, eRun_exit, simprocAttr, k_ref8_word]; rfl, ?_⟩
              exact yes (by simp [c33])
            by_cases c61 : c = 61
            · refine WS_run 1000 (by simp only [go_sem, eRun_exit, simprocAttr, k_ref8_word_p13, k_ref8_word_p12, k_ref8_word_p11, k_ref8_word_p10, f0, c40, c41, c44, c46, c33, c61]; rfl) ?_
              refine WS_ret ⟨_, by simp only [go_sem, eRun_exit, simprocAttr, k_ref8_word]; rfl, ?_⟩
              exact yes (by simp [c61])
            by_cases c60 : c = 60
            · refine WS_run 1000 (by simp only [go_sem, eRun_exit, simprocAttr, k_ref8_word_p13, k_ref8_word_p12, k_ref8_word_p11, k_ref8_word_p10, f0, c40, c41, c44, c46, c33, c61, c60]; rfl) ?_
              refine WS_ret ⟨_, by simp only [go_sem, eRun_exit, simprocAttr, k_ref8_word]; rfl, ?_⟩
              exact yes (by simp [c60])
            refine WS_run 1000 (by simp only [go_sem, eRun_exit, simprocAttr, k_ref8_word_p13, k_ref8_word_p12, k_ref8_word_p11, k_ref8_word_p10, f0, c40, c41, c44, c46, c33, c61, c60]; rfl) ?_
            refine WS_ret ⟨_, by simp only [go_sem, eRun_exit, simprocAttr, k_ref8_word]; rfl, ?_⟩
            exact no (by simp [c40, c41, c44, c46, c33, c61, c60])
        have hne : (lexWord (c :: t)).2 = 0 → ¬ isDigit c = true → c = 45 → ∀ fr : Fr, fr.get 0 = some (.str (c :: t)) → WS tab [.code k48s] fr aw (fun fr' aw' => ∃ vs, resV fr' aw' k_ref8_word.results = some vs ∧ K (resOne vs) aw') := by
          intro hz _ he fr f0
          refine hsg fr f0 ?_ (fun hn => absurd hz hn)
          rw [hz]; subst he; rfl
        by_cases h45 : c = 45
        · have hl : lexWord (c :: t) = (3, numberLen (c :: t)) := by
            subst h45; rfl
          have e45 : ¬ isDigit c = true := by rw [h3]; simp
          cases t with
          | nil =>
            have hnl : numberLen [c] = 0 := by subst h45; rfl
            refine WS_runB 20 (by simp only [go_sem, eRun_exit, simprocAttr, h45, List.length_cons, List.length_nil]; rfl) ?_
            refine hne (by rw [hl]; exact hnl) e45 h45 _ (by simp only [go_sem, eRun_exit, simprocAttr, h45] <;> rfl)
          | cons d u =>
            have hlen : 1 < (45 :: d :: u).length := by simp
            have hh : (c :: d :: u).head? = some 45 := by rw [h45]; rfl
            refine WS_run 1000 (by simp only [go_sem, eRun_exit, simprocAttr, h45, hlen]; rfl) ?_
            refine WS_call (by simp only [go_sem, eRun_exit, simprocAttr]) (by simp only [go_sem, eRun_exit, simprocAttr]; rfl) ?_
            refine rdigit_ok C ?_
            cases hd : isDigit d with
            | false =>
              have hnl : numberLen (c :: d :: u) = 0 := by
                subst h45
                have e0 : ((d :: u).takeWhile isDigit) = [] := List.takeWhile_cons_of_neg (by simp [hd])
                simp [numberLen, e0]
              refine WS_runB 7 (by simp only [go_sem, eRun_exit, simprocAttr]; rfl) ?_
              refine hne (by rw [hl]; exact hnl) e45 h45 _ (by simp only [go_sem, eRun_exit, simprocAttr, h45] <;> rfl)
            | true =>
              have hd1 : ((d :: u).takeWhile isDigit).length = 1 + (u.takeWhile isDigit).length := by rw [List.takeWhile_cons_of_pos hd, List.length_cons, Nat.add_comm]
              have hnl : numberLen (c :: d :: u) = if d = 48 then 0 else 1 + (1 + (u.takeWhile isDigit).length) := by
                unfold numberLen
                rw [hh]
                simp only [if_true, List.drop_succ_cons, List.drop_zero, hd1, List.getElem?_cons_succ, List.getElem?_cons_zero, Option.some.injEq, true_and]
                rw [if_neg (by omega)]
                split <;> rfl
              by_cases h48 : d = 48
              · refine WS_run 1000 (by simp only [go_sem, eRun_exit, simprocAttr, k_ref8_word_p4, k_ref8_word_p2, h48, h45]; rfl) ?_
                refine WS_ret ⟨_, by simp only [go_sem, eRun_exit, simprocAttr, k_ref8_word]; rfl, ?_⟩
                rw [if_pos h48] at hnl
                have := h 0 aw (fun hn => absurd (by rw [hl]; exact hnl) hn) (Ext.refl aw)
                rw [hl, hnl] at this
                exact this
              · refine WS_run 1000 (by simp only [go_sem, eRun_exit, simprocAttr, k_ref8_word_p4, k_ref8_word_p2, h48, h45]; rfl) ?_
                refine rl3 (c := 45) (t := d :: u) C (by simpa using hs) (k0 := 2) (by simp) (by simp only [go_sem, eRun_exit, simprocAttr] <;> rfl) (by simp only [go_sem, eRun_exit, simprocAttr] <;> rfl) ?_
                intro f f0 f4
                refine WS_run 1000 (by simp only [go_sem, eRun_exit, simprocAttr, f4]; rfl) ?_
                refine WS_ret ⟨_, by simp only [go_sem, eRun_exit, simprocAttr, k_ref8_word]; rfl, ?_⟩
                rw [if_neg h48] at hnl
                have := h 3 aw (fun _ => by rw [hl]) (Ext.refl aw)
                rw [hl, hnl] at this
                have e : 2 + (List.takeWhile isDigit (List.drop 2 (45 :: d :: u))).length = 1 + (1 + (u.takeWhile isDigit).length) := by simp; omega
                rw [e]
                exact this
        · have hd : (isDigit c || decide (c = 45)) = false := by simp [h3, h45]
          have hl : lexWord (c :: t) = (match signs.find? (fun g => g.isPrefixOf (c :: t)) with
              | some g => (4, g.length)
              | none => (0, 0)) := by
            simp only [lexWord, h1, h2, hd, Bool.false_eq_true, if_false]; rfl
          refine WS_runB 20 (by simp only [go_sem, eRun_exit, simprocAttr, h45]; rfl) ?_
          refine hsg _ (by simp only [go_sem, eRun_exit, simprocAttr] <;> rfl) ?_ ?_
          · rw [hl]; cases signs.find? (fun g => g.isPrefixOf (c :: t)) <;> rfl
          · rw [hl]; cases signs.find? (fun g => g.isPrefixOf (c :: t)) with
            | none => intro hn; exact absurd rfl hn
            | some g => intro _; rfl
end Go.Proofs.YtegdcbdicpfbpaaGreatDoor
set_option linter.unusedVariables false
set_option linter.unusedSimpArgs false
namespace Go.Proofs.YtegdcbdicpfbpaaGreatDoor
open Go.AE Delphi
variable {tab : Tab}
def ScanI (s : List Nat) (l : List Wd) (ok : Bool) (aw : AW) (n : Nat) (f : Fr) (w : AW) : Prop := ∃ i v done, f.get 0 = some (.str s) ∧ f.get 5 = some (.int .i64 (Int.ofNat i)) ∧ f.get 4 = some v ∧ Own aw.next w v 3 done.length (wdsCells done) ∧ Ext aw.next aw w ∧ i ≤ s.length ∧
    (l, ok) = (done ++ (scan i (s.drop i)).1, (scan i (s.drop i)).2) ∧ done.length ≤ i ∧ n = s.length - i
set_option maxRecDepth 10000 in
set_option maxHeartbeats 1000000 in
theorem rscan_ok (C : Codes tab) {s : List Nat} {aw : AW} {K : V → AW → Prop} (hs : s.length ≤ 1099511627776)
    (h1 : 4000 < s.length → K (.tuple [.nilslice, .int .i64 8]) aw)
    (h2 : s.length ≤ 4000 → ∀ v aw', Own aw.next aw' v 3 (scan 0 s).1.length (wdsCells (scan 0 s).1) → Ext aw.next aw aw' → K (.tuple [v, .int .i64 (if (scan 0 s).2 then 0 else 4)]) aw') : WF tab n_ref8_Scan [.str s] aw K := by
  refine WF_of C.c_ref8_Scan rfl ?_
  obtain ⟨l, ok, hres⟩ : ∃ l ok, scan 0 s = (l, ok) := ⟨_, _, rfl⟩
  rw [hres] at h2
  simp only at h2
  by_cases hl : 4000 < s.length
  · refine WS_run 1000 (by simp only [go_sem, eRun_exit, simprocAttr, k_ref8_Scan, hl]; rfl) ?_
    refine WS_ret ⟨_, by simp only [go_sem, eRun_exit, simprocAttr, k_ref8_Scan]; rfl, ?_⟩
    exact h1 hl
  have h2 := h2 (by omega)
  refine WS_run 1000 (by simp only [go_sem, eRun_exit, simprocAttr, k_ref8_Scan, hl]; rfl) ?_
  refine WS_loop (ScanI s l ok aw) ?_ s.length ⟨0, .nilslice, [], (by simp only [go_sem, eRun_exit, simprocAttr] <;> rfl), (by simp only [go_sem, eRun_exit, simprocAttr] <;> rfl), (by simp only [go_sem, eRun_exit, simprocAttr] <;> rfl), .nil, Ext.refl aw, by omega, by rw [← hres]; simp, by simp, rfl⟩
  rintro n f w ⟨i, v, done, f0, f5, f4, hown, hext, hi, hsc, hdl, rfl⟩ ih
  by_cases hlt : i < s.length
  · obtain ⟨c, hc⟩ : ∃ c, s[i]? = some c := ⟨_, List.getElem?_eq_getElem hlt⟩
    have hd0 : s.drop i = c :: s.drop (i + 1) := by
      rw [List.drop_eq_getElem_cons hlt]; rw [List.getElem?_eq_getElem hlt] at hc; rw [Option.some.inj hc]
    have hw : IntKind.wrap .i64 (Int.ofNat i + 1) = Int.ofNat (i + 1) := wrap_succ (by omega)
    have skip : ∀ (j : Nat) f' , i < j → j ≤ s.length → blk false (s.drop i) = (j - i) + blk false (s.drop j) → f'.get 0 = some (.str s) → f'.get 5 = some (.int .i64 (Int.ofNat j)) → f'.get 4 = some v → ScanI s l ok aw (s.length - j) f' w := by
      intro j f' hij hj hb g0 g5 g4
      refine ⟨j, v, done, g0, g5, g4, hown, hext, hj, ?_, by omega, rfl⟩
      have e : s.drop j = (s.drop i).drop (j - i) := by rw [List.drop_drop]; congr 1; omega
      rw [hsc, scan_skip i (s.drop i) (j - i) (by rw [← e]; exact hb), ← e, show i + (j - i) = j by omega]
    have skip1 : isBlank c = true → ∀ f', f'.get 0 = some (.str s) → f'.get 5 = some (.int .i64 (Int.ofNat (i + 1))) → f'.get 4 = some v → ScanI s l ok aw (s.length - (i + 1)) f' w := fun hb f' g0 g5 g4 =>
      skip (i + 1) f' (by omega) (by omega) (by rw [hd0]; simp only [blk, hb, if_true]; omega) g0 g5 g4
    have rest : True := trivial
    by_cases b32 : c = 32
    · refine WS_run 1000 (by simp only [go_sem, eRun_exit, simprocAttr, k_ref8_Scan_p3, k_ref8_Scan_p2, f0, f5, hlt, hc, hw, b32]; rfl) ?_
      exact ih _ _ _ (by omega) (skip1 (by simp [isBlank, b32]) _ (by simp only [go_sem, eRun_exit, simprocAttr, f0] <;> rfl) (by simp only [go_sem, eRun_exit, simprocAttr] <;> rfl) (by simp only [go_sem, eRun_exit, simprocAttr, f4] <;> rfl))
    by_cases b9 : c = 9
    · refine WS_run 1000 (by simp only [go_sem, eRun_exit, simprocAttr, k_ref8_Scan_p3, k_ref8_Scan_p2, f0, f5, hlt, hc, hw, b32, b9]; rfl) ?_
      exact ih _ _ _ (by omega) (skip1 (by simp [isBlank, b32, b9]) _ (by simp only [go_sem, eRun_exit, simprocAttr, f0] <;> rfl) (by simp only [go_sem, eRun_exit, simprocAttr] <;> rfl) (by simp only [go_sem, eRun_exit, simprocAttr, f4] <;> rfl))
    by_cases b10 : c = 10
    · refine WS_run 1000 (by simp only [go_sem, eRun_exit, simprocAttr, k_ref8_Scan_p3, k_ref8_Scan_p2, f0, f5, hlt, hc, hw, b32, b9, b10]; rfl) ?_
      exact ih _ _ _ (by omega) (skip1 (by simp [isBlank, b32, b9, b10]) _ (by simp only [go_sem, eRun_exit, simprocAttr, f0] <;> rfl) (by simp only [go_sem, eRun_exit, simprocAttr] <;> rfl) (by simp only [go_sem, eRun_exit, simprocAttr, f4] <;> rfl))
    by_cases b13 : c = 13
    · refine WS_run 1000 (by simp only [go_sem, eRun_exit, simprocAttr, k_ref8_Scan_p3, k_ref8_Scan_p2, f0, f5, hlt, hc, hw, b32, b9, b10, b13]; rfl) ?_
      exact ih _ _ _ (by omega) (skip1 (by simp [isBlank, b32, b9, b10, b13]) _ (by simp only [go_sem, eRun_exit, simprocAttr, f0] <;> rfl) (by simp only [go_sem, eRun_exit, simprocAttr] <;> rfl) (by simp only [go_sem, eRun_exit, simprocAttr, f4] <;> rfl))
    have hnb : isBlank c = false := by simp [isBlank, b32, b9, b10, b13]
    by_cases h37 : c = 37
    · refine WS_run 1000 (by simp only [go_sem, eRun_exit, simprocAttr, k_ref8_Scan_p3, k_ref8_Scan_p2, f0, f5, hlt, hc, b32, b9, b10, b13, h37]; rfl) ?_
      -- the note
      refine WS_loop (fun n f' w' => ∃ j, f'.get 0 = some (.str s) ∧ f'.get 5 = some (.int .i64 (Int.ofNat j)) ∧ f'.get 4 = some v ∧ i ≤ j ∧ j ≤ s.length ∧ blk false (s.drop i) = (j - i) + blk true (s.drop j) ∧ n = s.length - j ∧ w' = w) ?_ (s.length - i) ⟨i, (by simp only [go_sem, eRun_exit, simprocAttr, f0] <;> rfl), (by simp only [go_sem, eRun_exit, simprocAttr, f5] <;> rfl), (by simp only [go_sem, eRun_exit, simprocAttr, f4] <;> rfl), by omega, hi, ?_, rfl, rfl⟩
      · rintro n f' w' ⟨j, g0, g5, g4, hij, hj, hbj, rfl, rfl⟩ ih2
        by_cases hjl : j < s.length
        · obtain ⟨d, hdc⟩ : ∃ d, s[j]? = some d := ⟨_, List.getElem?_eq_getElem hjl⟩
          have hdj : s.drop j = d :: s.drop (j + 1) := by
            rw [List.drop_eq_getElem_cons hjl]; rw [List.getElem?_eq_getElem hjl] at hdc; rw [Option.some.inj hdc]
          have hwj : IntKind.wrap .i64 (Int.ofNat j + 1) = Int.ofNat (j + 1) := wrap_succ (by omega)
          by_cases h10 : d = 10
          · refine WS_run 1000 (by simp only [go_sem, eRun_exit, simprocAttr, k_ref8_Scan_p0, g0, g5, hjl, hdc, h10]; rfl) ?_
            have hne : i ≠ j := by
              intro he; subst he; rw [hc] at hdc; cases hdc; omega
            refine ih _ _ _ (by omega) (skip j _ (by omega) hj ?_ (by simp only [go_sem, eRun_exit, simprocAttr, g0] <;> rfl) (by simp only [go_sem, eRun_exit, simprocAttr, g5] <;> rfl) (by simp only [go_sem, eRun_exit, simprocAttr, g4] <;> rfl))
            rw [hbj, hdj, h10]; simp [blk, isBlank]
          · refine WS_run 1000 (by simp only [go_sem, eRun_exit, simprocAttr, k_ref8_Scan_p0, g0, g5, hjl, hdc, h10, hwj]; rfl) ?_
            refine ih2 (s.length - (j + 1)) _ _ (by omega) ⟨j + 1, (by simp only [go_sem, eRun_exit, simprocAttr, g0] <;> rfl), (by simp only [go_sem, eRun_exit, simprocAttr] <;> rfl), (by simp only [go_sem, eRun_exit, simprocAttr, g4] <;> rfl), by omega, by omega, ?_, rfl, rfl⟩
            rw [hbj, hdj]; simp only [blk, if_neg h10]; omega
        · have : j = s.length := by omega
          subst this
          refine WS_run 1000 (by simp only [go_sem, eRun_exit, simprocAttr, k_ref8_Scan_p0, g0, g5, hjl]; rfl) ?_
          refine ih _ _ _ (by omega) (skip s.length _ hlt hj ?_ (by simp only [go_sem, eRun_exit, simprocAttr, g0] <;> rfl) (by simp only [go_sem, eRun_exit, simprocAttr, g5] <;> rfl) (by simp only [go_sem, eRun_exit, simprocAttr, g4] <;> rfl))
          rw [hbj, List.drop_length]; simp [blk]
      · rw [hd0, h37]; simp [blk, isBlank]
    · -- a word
      obtain ⟨t, hd⟩ : ∃ t, s.drop i = c :: t := ⟨_, hd0⟩
      have hbl : blk false (s.drop i) = 0 := by rw [hd]; simp [blk, hnb, h37]
      have hle := lexWord_le (c :: t)
      have hlen : (c :: t).length = s.length - i := by rw [← hd]; simp
      rw [scan_eq, hbl, List.drop_zero, hd] at hsc
      simp only [Nat.add_zero] at hsc
      refine WS_run 1000 (by simp only [go_sem, eRun_exit, simprocAttr, k_ref8_Scan_p3, k_ref8_Scan_p2, k_ref8_Scan_p1, f0, f5, hlt, hi, hc, b32, b9, b10, b13, h37]; rfl) ?_
      refine WS_call (by simp only [go_sem, eRun_exit, simprocAttr]) (by simp only [go_sem, eRun_exit, simprocAttr]; rfl) ?_
      rw [hd]
      refine rword_ok (c := c) (t := t) C (by omega) ?_
      intro kind w1 hkd hx1
      generalize hlw : lexWord (c :: t) = lw at hle hsc hkd
      obtain ⟨k, m⟩ := lw
      simp only at hle hsc hkd
      by_cases hm : m = 0
      · rw [if_pos (.inl hm)] at hsc
        have e1 : l = done := by simpa using (Prod.mk.inj hsc).1
        have e2 : ok = false := (Prod.mk.inj hsc).2
        have fin := h2 v w1 (by rw [e1]; exact hown.ext (Nat.le_refl _) hx1) (hext.trans (hx1.mono hext.le'))
        rw [e2] at fin
        refine WS_run 1000 (by simp only [go_sem, eRun_exit, simprocAttr, f4, hm]; rfl) ?_
        refine WS_ret ⟨_, by simp only [go_sem, eRun_exit, simprocAttr, k_ref8_Scan]; rfl, ?_⟩
        exact fin
      obtain rfl := hkd hm
      have hk4 : kind ≤ 4 := by
        have : (lexWord (c :: t)).1 ≤ 4 := by
          simp only [lexWord]
          (repeat' split) <;> simp
        rw [hlw] at this; exact this
      by_cases hbad : kind ≠ 4 ∧ 16 < m
      · rw [if_pos (.inr hbad)] at hsc
        have e1 : l = done := by simpa using (Prod.mk.inj hsc).1
        have e2 : ok = false := (Prod.mk.inj hsc).2
        have fin := h2 v w1 (by rw [e1]; exact hown.ext (Nat.le_refl _) hx1) (hext.trans (hx1.mono hext.le'))
        rw [e2] at fin
        obtain ⟨hk4', hm16⟩ := hbad
        have hk4'' : kind < 4 := by omega
        refine WS_run 1000 (by simp only [go_sem, eRun_exit, simprocAttr, f4, hm, hk4'', hm16]; rfl) ?_
        refine WS_ret ⟨_, by simp only [go_sem, eRun_exit, simprocAttr, k_ref8_Scan]; rfl, ?_⟩
        exact fin
      · rw [if_neg (by intro hh; rcases hh with hh | hh; exact hm hh; exact hbad hh)] at hsc
        have hw1 : IntKind.wrap .i64 (Int.ofNat i + Int.ofNat m) = Int.ofNat (i + m) := wrap_add (by omega)
        have hc1 : i + m ≤ s.length := by omega
        have hc2 : i ≤ i + m := Nat.le_add_right _ _
        have hown1 := hown.ext (Nat.le_refl _) hx1
        have hN1 : aw.next ≤ w1.next := Nat.le_trans hext.le' hx1.next
        obtain ⟨v2, w2, happ, hown2, hx2⟩ := hown1.push (bytes := 32) hN1 (by omega) (news := wdCells ⟨kind, (s.drop i).take m, i⟩) rfl rfl (by omega) (by omega)
        have hel := elems_fresh (w := w1) (esz := 3) (n := 1) (c := .known 1) (cs := wdCells ⟨kind, (s.drop i).take m, i⟩) (by omega) rfl
        simp only [wdCells] at happ hel
        by_cases hk4 : kind < 4
        · have h16 : ¬ 16 < m := fun hh => hbad ⟨by omega, hh⟩
          refine WS_run 1000 (by simp only [go_sem, eRun_exit, simprocAttr, f0, f5, f4, hm, hk4, h16, hw1, hc1, hc2, k_ref8_Scan_p1, evParts, fillV, V.cells, over, List.length_cons, List.length_nil, hel, happ]; rfl) ?_
          refine ih (s.length - (i + m)) _ _ (by omega) ⟨i + m, v2, done ++ [⟨kind, (s.drop i).take m, i⟩], (by simp only [go_sem, eRun_exit, simprocAttr, f0] <;> rfl), (by simp only [go_sem, eRun_exit, simprocAttr] <;> rfl), (by simp only [go_sem, eRun_exit, simprocAttr] <;> rfl), ?_, hext.trans ((hx1.mono hext.le').trans hx2), by omega, ?_, by simp only [List.length_append, List.length_cons, List.length_nil]; omega, rfl⟩
          · rw [wdsCells_snoc, List.length_append]; exact hown2
          · rw [hsc, hd]
            have hdr : (c :: t).drop m = s.drop (i + m) := by rw [← hd, List.drop_drop]
            rw [hdr]
            simp
        · have h16 : True := trivial
          refine WS_run 1000 (by simp only [go_sem, eRun_exit, simprocAttr, f0, f5, f4, hm, hk4, h16, hw1, hc1, hc2, k_ref8_Scan_p1, evParts, fillV, V.cells, over, List.length_cons, List.length_nil, hel, happ]; rfl) ?_
          refine ih (s.length - (i + m)) _ _ (by omega) ⟨i + m, v2, done ++ [⟨kind, (s.drop i).take m, i⟩], (by simp only [go_sem, eRun_exit, simprocAttr, f0] <;> rfl), (by simp only [go_sem, eRun_exit, simprocAttr] <;> rfl), (by simp only [go_sem, eRun_exit, simprocAttr] <;> rfl), ?_, hext.trans ((hx1.mono hext.le').trans hx2), by omega, ?_, by simp only [List.length_append, List.length_cons, List.length_nil]; omega, rfl⟩
          · rw [wdsCells_snoc, List.length_append]; exact hown2
          · rw [hsc, hd]
            have hdr : (c :: t).drop m = s.drop (i + m) := by rw [← hd, List.drop_drop]
            rw [hdr]
            simp
  · have : i = s.length := by omega
    subst this
    refine WS_run 1000 (by simp only [go_sem, eRun_exit, simprocAttr, k_ref8_Scan_p3, f0, f5, f4, hlt]; rfl) ?_
    refine WS_ret ⟨_, by simp only [go_sem, eRun_exit, simprocAttr, k_ref8_Scan]; rfl, ?_⟩
    rw [List.drop_length] at hsc
    have hz : scan s.length ([] : List Nat) = ([], true) := by rw [scan_eq]; rfl
    rw [hz] at hsc
    have e1 : l = done := by simpa using (Prod.mk.inj hsc).1
    have e2 : ok = true := (Prod.mk.inj hsc).2
    have := h2 v w (by rw [e1]; exact hown) hext
    rw [e2] at this
    exact this
end Go.Proofs.YtegdcbdicpfbpaaGreatDoor
set_option linter.unusedVariables false
set_option linter.unusedSectionVars false
set_option linter.unusedSimpArgs false
namespace Go.AE
variable [Globs]
structure Frm (S : Nat → Prop) (w w' : AW) : Prop where
  next : w.next ≤ w'.next
  heap : ∀ b, b < w.next → ¬ S b → w'.heap.get b = w.heap.get b
  fams : ∀ b, b < w.next → ¬ S b → w'.fams.get b = w.fams.get b
theorem Frm.refl {S : Nat → Prop} (w : AW) : Frm S w w := ⟨Nat.le_refl _, fun _ _ _ => rfl, fun _ _ _ => rfl⟩
theorem Frm.trans {S T U : Nat → Prop} {a b c : AW} (h : Frm S a b) (h' : Frm T b c) (hs : ∀ x, x < a.next → S x → U x) (ht : ∀ x, x < a.next → T x → U x) : Frm U a c :=
  ⟨Nat.le_trans h.next h'.next, fun k hk hu => (h'.heap k (Nat.lt_of_lt_of_le hk h.next) fun x => hu (ht k hk x)).trans (h.heap k hk fun x => hu (hs k hk x)),
   fun k hk hu => (h'.fams k (Nat.lt_of_lt_of_le hk h.next) fun x => hu (ht k hk x)).trans (h.fams k hk fun x => hu (hs k hk x))⟩
theorem Frm.mono {S T : Nat → Prop} {a b : AW} (h : Frm S a b) (hs : ∀ x, x < a.next → S x → T x) : Frm T a b := ⟨h.next, fun k hk hu => h.heap k hk fun x => hu (hs k hk x), fun k hk hu => h.fams k hk fun x => hu (hs k hk x)⟩
theorem Frm.new {S : Nat → Prop} (w : AW) (x : Blk) : Frm S w (w.new x) := ⟨Nat.le_succ _, fun b hb _ => T.get_put_ne (by omega), fun _ _ _ => rfl⟩
theorem Ext.frm {N : Nat} {w w' : AW} (h : Ext N w w') {S : Nat → Prop} (hs : ∀ x, x < w.next → N ≤ x → S x) : Frm S w w' :=
  ⟨h.next, fun b hb hn => h.heap b (Nat.lt_of_not_le fun x => hn (hs b hb x)), fun b hb hn => h.fams b (Nat.lt_of_not_le fun x => hn (hs b hb x))⟩
theorem Frm.ext {N : Nat} {w w' : AW} {S : Nat → Prop} (h : Frm S w w') (hN : N ≤ w.next) (hs : ∀ x, S x → N ≤ x) : Ext N w w' :=
  ⟨hN, h.next, fun b hb => h.heap b (by omega) fun x => by have := hs b x; omega, fun b hb => h.fams b (by omega) fun x => by have := hs b x; omega⟩
def Grown (S S' : Nat → Prop) (w w' : AW) : Prop := ∀ b, S' b → b < w'.next ∧ (S b ∨ w.next ≤ b)
def Shr (S : Nat → Prop) (w : AW) (b : Nat) (sh : Share) : Prop :=
  sh = .own ∨ sh = .lax ∨ ∃ f F, sh = .fam f ∧ S f ∧ f < w.next ∧ w.fams.get f = some F ∧ F.last = b ∧ F.floor ≤ w.next ∧ w.alive b sh = true
theorem Shr.alive {S : Nat → Prop} {w : AW} {b : Nat} {sh : Share} (h : Shr S w b sh) : w.alive b sh = true := by
  rcases h with rfl | rfl | ⟨f, F, rfl, h1, h2, h3, h4, h6, h5⟩
  · rfl
  · rfl
  · exact h5
theorem Shr.mono {S S' : Nat → Prop} {w : AW} {b : Nat} {sh : Share} (h : Shr S w b sh) (hs : ∀ x, S x → S' x) : Shr S' w b sh := by
  rcases h with rfl | rfl | ⟨f, F, rfl, h1, h2⟩
  · exact .inl rfl
  · exact .inr (.inl rfl)
  · exact .inr (.inr ⟨f, F, rfl, hs _ h1, h2⟩)
theorem Shr.frm {S T : Nat → Prop} {w w' : AW} {b : Nat} {sh : Share} (h : Shr S w b sh) (hf : Frm T w w') (hd : ∀ x, S x → ¬ T x) : Shr S w' b sh := by
  rcases h with rfl | rfl | ⟨f, F, rfl, h1, h2, h3, h4, h6, h5⟩
  · exact .inl rfl
  · exact .inr (.inl rfl)
  · have e := hf.fams f h2 (hd f h1)
    refine .inr (.inr ⟨f, F, rfl, h1, Nat.lt_of_lt_of_le h2 hf.next, e.trans h3, h4, Nat.le_trans h6 hf.next, ?_⟩)
    simp only [AW.alive, h3, e.trans h3] at h5 ⊢
    exact h5
inductive Buf (S : Nat → Prop) (w : AW) : V → Nat → Nat → List V → Prop
  | nil {esz : Nat} : Buf S w .nilslice esz 0 []
  | blk {b n esz r : Nat} {cs rest : List V} {sh : Share} (hS : S b) (hb : b < w.next) (hx : w.heap.get b = some (.cells (cs ++ rest) sh)) (hl : cs.length = n * esz) (hr : rest.length = r * esz) (he : 0 < esz) (hn : 0 < n + r) (hs : Shr S w b sh) :
      Buf S w (.slice b 0 n (.upTo esz)) esz n cs
theorem Buf.mono {S S' : Nat → Prop} {w : AW} {v : V} {esz n : Nat} {cs : List V} (h : Buf S w v esz n cs) (hs : ∀ x, S x → S' x) : Buf S' w v esz n cs := by
  cases h with
  | nil => exact .nil
  | blk hS hb hx hl hr he hn hsh => exact .blk (hs _ hS) hb hx hl hr he hn (hsh.mono hs)
theorem Buf.frm {S T : Nat → Prop} {w w' : AW} {v : V} {esz n : Nat} {cs : List V} (h : Buf S w v esz n cs) (hf : Frm T w w') (hd : ∀ x, S x → ¬ T x) : Buf S w' v esz n cs := by
  cases h with
  | nil => exact .nil
  | blk hS hb hx hl hr he hn hsh => exact .blk hS (Nat.lt_of_lt_of_le hb hf.next) ((hf.heap _ hb (hd _ hS)).trans hx) hl hr he hn (hsh.frm hf hd)
theorem Buf.len {S : Nat → Prop} {w : AW} {v : V} {esz n : Nat} {cs : List V} (h : Buf S w v esz n cs) : cs.length = n * esz := by
  cases h with
  | nil => simp
  | blk hS hb hx hl hr he hn hsh => exact hl
theorem Buf.inv {S : Nat → Prop} {w : AW} {v : V} {esz n : Nat} {cs : List V} (h : Buf S w v esz n cs) : (v = .nilslice ∧ n = 0 ∧ cs = []) ∨ ∃ b, v = .slice b 0 n (.upTo esz) ∧ S b ∧ b < w.next := by
  cases h with
  | nil => exact .inl ⟨rfl, rfl, rfl⟩
  | blk hS hb hx hl hr he hn hsh => exact .inr ⟨_, rfl, hS, hb⟩
theorem Buf.load {S : Nat → Prop} {w : AW} {b n esz : Nat} {c : Cap} {cs : List V} (h : Buf S w (.slice b 0 n c) esz n cs) {o k : Nat} (hk : o + k ≤ cs.length) : w.load b o k = some ((cs.drop o).take k) := by
  cases h with
  | blk hS hb hx hl hr he hn hsh =>
    simp only [AW.load, hx, hsh.alive]
    rw [takeN_some _ _ (by simp; omega), List.drop_append_of_le_length (by omega), List.take_append_of_le_length (by simp; omega)]
theorem over_mid : ∀ (a b c d : List V), d.length = b.length → over (a ++ b ++ c) a.length d = some (a ++ d ++ c)
  | [], b, c, d, h => by
    have : ∀ (b d : List V), d.length = b.length → over (b ++ c) 0 d = some (d ++ c) := by
      intro b
      induction b with
      | nil => intro d h; cases d with
        | nil => cases hc : c <;> rfl
        | cons x d => simp at h
      | cons y b ih => intro d h; cases d with
        | nil => simp at h
        | cons x d => simp only [List.cons_append, over, ih d (by simpa using h)]
    simpa using this b d h
  | x :: a, b, c, d, h => by
    have := over_mid a b c d h
    simp only [List.cons_append, List.length_cons, over, this]
theorem turn_frm {S : Nat → Prop} {w : AW} {b : Nat} {l : List V} {sh : Share} (hS : S b) (hs : Shr S w b sh) : Frm S w (w.turn b (.cells l sh)) := by
  refine ⟨Nat.le_refl _, fun c hc hn => T.get_put_ne fun e => hn (e ▸ hS), fun c hc hn => ?_⟩
  rcases hs with rfl | rfl | ⟨f, F, rfl, h1, h2⟩
  · rfl
  · rfl
  · exact T.get_put_ne fun e => hn (e ▸ h1)
theorem turn_shr {S : Nat → Prop} {w : AW} {b : Nat} {l : List V} {sh : Share} (hb : b < w.next) (hs : Shr S w b sh) : Shr S (w.turn b (.cells l sh)) b sh := by
  rcases hs with rfl | rfl | ⟨f, F, rfl, h1, h2, h3⟩
  · exact .inl rfl
  · exact .inr (.inl rfl)
  · have e : (w.turn b (.cells l (.fam f))).fams.get f = some ⟨b, w.next, b⟩ := T.get_put_same
    exact .inr (.inr ⟨f, _, rfl, h1, h2, e, rfl, Nat.le_refl _, by simp only [AW.alive, e, Nat.beq_refl, Bool.true_or]⟩)
theorem store_shr {S : Nat → Prop} {w : AW} {b o : Nat} {l l' vs : List V} {sh : Share} (hx : w.heap.get b = some (.cells l sh)) (hs : Shr S w b sh) (h1 : allOne vs = true) (ho : over l o vs = some l') : w.store b o vs = some (w.turn b (.cells l' sh)) := by
  have ha := hs.alive
  rcases hs with rfl | rfl | ⟨f, F, rfl, _⟩ <;> simp only [AW.store, hx, ha, h1, ho]
theorem Buf.add {S : Nat → Prop} {w : AW} {v : V} {esz n bytes : Nat} {cs news : List V} (h : Buf S w v esz n cs) (he : 0 < esz) (hl : news.length = esz) (h1 : allOne news = true) (hb : (n + 1) * bytes ≤ 70368744177664) (hb' : n + 1 ≤ 70368744177664) :
    ∃ v' w' S', w.appendV esz bytes v 1 news = some (v', w') ∧ Buf S' w' v' esz (n + 1) (cs ++ news) ∧ Frm S w w' ∧ Grown S S' w w' := by
  have hcl := h.len
  cases h with
  | nil =>
    refine ⟨.slice w.next 0 1 (.upTo esz), w.fresh news, fun b => b = w.next, ?_, ?_, Frm.new _ _, ?_⟩
    · simp only [AW.appendV]; rw [if_pos ⟨by simpa using hb, by omega⟩]
    · exact .blk (r := 0) (rest := []) rfl (Nat.lt_succ_self _) (by rw [List.append_nil]; exact T.get_put_same) (by simpa using hl) (by simp) he (by omega) (.inl rfl)
    · rintro b rfl; exact ⟨Nat.lt_succ_self _, .inr (Nat.le_refl _)⟩
  | @blk b _ _ r _ rest sh hS hbw hx hlen hr he' hn hs =>
    have happ : w.appendV esz bytes (.slice b 0 n (.upTo esz)) 1 news = w.appendUp esz b 0 n 1 news := if_pos ⟨rfl, hb, hb', h1, he⟩
    rw [happ]
    cases r with
    | succ r =>
      -- room behind it
      have hne : Nat.beq (0 + n * esz) (cs ++ rest).length = false := by
        rw [natBeq, decide_eq_false_iff_not, List.length_append, hlen, hr, Nat.add_mul, Nat.one_mul]; omega
      have hfit : Nat.ble (0 + (n + 1) * esz) (cs ++ rest).length = true := by
        rw [natBle, decide_eq_true_eq, List.length_append, hlen, hr, Nat.add_mul, Nat.add_mul, Nat.one_mul]; omega
      obtain ⟨r1, r2, rfl, hr1⟩ : ∃ r1 r2, rest = r1 ++ r2 ∧ r1.length = esz := ⟨rest.take esz, rest.drop esz, (List.take_append_drop _ _).symm, by rw [List.length_take, hr, Nat.add_mul, Nat.one_mul]; omega⟩
      have hov : over (cs ++ (r1 ++ r2)) (0 + n * esz) news = some (cs ++ news ++ r2) := by
        rw [← List.append_assoc, Nat.zero_add, ← hlen]; exact over_mid _ _ _ _ (by omega)
      refine ⟨.slice b 0 (n + 1) (.upTo esz), w.turn b (.cells (cs ++ news ++ r2) sh), fun x => S x ∧ x < w.next, ?_, ?_, turn_frm hS hs, ?_⟩
      · simp only [AW.appendUp, hx, hne, hfit, store_shr hx hs h1 hov]
      · refine .blk (r := r) ⟨hS, hbw⟩ hbw T.get_put_same (by rw [List.length_append, hlen, hl, Nat.add_mul, Nat.one_mul]) ?_ he (by omega) ?_
        · rw [List.length_append, hr1, Nat.add_mul, Nat.one_mul] at hr; omega
        · rcases turn_shr (l := cs ++ news ++ r2) hbw hs with rfl | rfl | ⟨f, F, rfl, q1, q2, q3⟩
          · exact .inl rfl
          · exact .inr (.inl rfl)
          · exact .inr (.inr ⟨f, F, rfl, ⟨q1, q2⟩, q2, q3⟩)
      · rintro x ⟨q1, q2⟩; exact ⟨q2, .inl q1⟩
    | zero =>
      have hr0 : rest = [] := List.length_eq_zero_iff.1 (by simpa using hr)
      subst hr0
      rw [List.append_nil] at hx
      have hbeq : Nat.beq (0 + n * esz) cs.length = true := by rw [Nat.zero_add, hlen, Nat.beq_refl]
      have fam : ∀ (u : AW) (f : Nat) (F : Fam), w.next ≤ u.next → Frm S w u → u.heap.get b = some (.cells cs (.fam f)) → (S f ∨ w.next ≤ f) → f < u.next → b < u.next → u.fams.get f = some F → F.last = b → F.floor ≤ u.next → u.alive b (.fam f) = true →
          ∃ v' w' S', u.appendFam esz b 0 n 1 news = some (v', w') ∧ Buf S' w' v' esz (n + 1) (cs ++ news) ∧ Frm S w w' ∧ Grown S S' w w' := by
        intro u f F hle hfu hx hSf hfl hbu hF hlast hflo hal
        refine ⟨.slice u.next 0 (n + 1) (.upTo esz), u.grow b f F (cs.drop 0 ++ news), fun x => x = u.next ∨ x = f, ?_, ?_, ?_, ?_⟩
        · simp only [AW.appendFam, hx, hal, hF, hbeq]
        · have hg : (u.grow b f F (cs.drop 0 ++ news)).fams.get f = some ⟨F.keep, F.floor, u.next⟩ := by
            simp only [AW.grow, T.get_putk, if_true, hlast, Nat.beq_refl]
          refine .blk (r := 0) (rest := []) (sh := .fam f) (.inl rfl) (Nat.lt_succ_self _) ?_ ?_ (by simp) he (by omega) (.inr (.inr ⟨f, ⟨F.keep, F.floor, u.next⟩, rfl, .inr rfl, Nat.lt_succ_of_lt hfl, hg, rfl, Nat.le_succ_of_le hflo, ?_⟩))
          · simp only [AW.grow, T.get_putk, if_true, List.drop_zero, List.append_nil]
          · rw [List.length_append, hlen, hl, Nat.add_mul, Nat.one_mul]
          · simp only [AW.alive, hg, Bool.or_eq_true]
            exact .inr (Nat.ble_eq_true_of_le hflo)
        · refine hfu.trans (T := fun x => x = f ∨ u.next ≤ x) ⟨Nat.le_succ _, fun c hc hn => T.get_put_ne (by omega), fun c hc hn => T.get_put_ne fun e => hn (.inl e)⟩ (fun x hx h => h) ?_
          rintro x hx (rfl | h)
          · rcases hSf with h | h
            · exact h
            · omega
          · omega
        · rintro x (rfl | rfl)
          · exact ⟨Nat.lt_succ_self _, .inr hle⟩
          · exact ⟨Nat.lt_succ_of_lt hfl, hSf⟩
      have fnd : sh = .own ∨ sh = .lax → ∃ v' w' S', (w.found b cs).appendFam esz b 0 n 1 news = some (v', w') ∧ Buf S' w' v' esz (n + 1) (cs ++ news) ∧ Frm S w w' ∧ Grown S S' w w' := by
        intro _
        refine fam (w.found b cs) w.next ⟨b, w.next + 1, b⟩ (Nat.le_succ _) ⟨Nat.le_succ _, fun c hc hn => T.get_put_ne fun e => hn (e ▸ hS), fun c hc hn => T.get_put_ne (by omega)⟩ T.get_put_same (.inr (Nat.le_refl _)) (Nat.lt_succ_self _) (Nat.lt_succ_of_lt hbw) T.get_put_same rfl (Nat.le_refl _) ?_
        simp only [AW.alive, AW.found, T.get_putk, if_true, Nat.beq_refl, Bool.true_or]
      simp only [AW.appendUp, hx, hbeq, List.append_nil]
      rcases hs with rfl | rfl | ⟨f, F, rfl, g1, g2, g3, g4, g6, g5⟩
      · exact fnd (.inl rfl)
      · exact fnd (.inr rfl)
      · exact fam w f F (Nat.le_refl _) (Frm.refl _) hx (.inl g1) g2 hbw g3 g4 g6 g5
theorem Buf.push {S : Nat → Prop} {w : AW} {v : V} {esz n bytes : Nat} {cs news : List V} (h : Buf S w v esz n cs) (hS : ∀ b, S b → b < w.next) (he : 0 < esz) (hl : news.length = esz) (h1 : allOne news = true) (hb : (n + 1) * bytes ≤ 70368744177664) (hb' : n + 1 ≤ 70368744177664) :
    ∃ v' w' S', (w.fresh news).appendV esz bytes v 1 news = some (v', w') ∧ Buf S' w' v' esz (n + 1) (cs ++ news) ∧ Frm S w w' ∧ Grown S S' w w' := by
  have hx : Frm (fun _ => False) w (w.fresh news) := Frm.new _ _
  obtain ⟨v', w', S', h2, h3, h4, h5⟩ := (h.frm hx fun _ _ h => h).add (news := news) (bytes := bytes) he hl h1 hb hb'
  refine ⟨v', w', S', h2, h3, hx.trans h4 (fun _ _ h => h.elim) fun _ _ h => h, fun b hb => ?_⟩
  obtain ⟨q1, q2⟩ := h5 b hb
  exact ⟨q1, q2.imp id fun h => Nat.le_trans hx.next h⟩
theorem Buf.insert {S : Nat → Prop} {w : AW} {b n bytes i bv : Nat} {cs : List V} {x : V} (h : Buf S w (.slice b 0 n (.upTo 1)) 1 n cs) (hi : i < n) (hv : w.heap.get bv = some (.cells [x] .own)) (hne : bv ≠ b) (h1 : x.one = true) (h2 : allOne cs = true) (hb : (n + 1) * bytes ≤ 70368744177664) (hb' : n + 1 ≤ 70368744177664) {k : Nat} :
    ∃ v' w' S', insPrim bytes [.slice b 0 n (.upTo 1), .int .i64 (.ofNat i), .slice bv 0 1 (.known k)] w = some (v', w') ∧ Buf S' w' v' 1 (n + 1) (cs.take i ++ [x] ++ cs.drop i) ∧ Frm S w w' ∧ Grown S S' w w' := by
  have hcl := h.len
  rw [Nat.mul_one] at hcl
  have hld := h.load (o := 0) (k := n) (by omega)
  rw [List.drop_zero, List.take_of_length_le (by omega)] at hld
  have hvl : w.load bv 0 1 = some [x] := by simp only [AW.load, hv, AW.alive, List.drop_zero, takeN]
  have hbv : Nat.beq bv b = false := by rw [natBeq, decide_eq_false hne]
  have hone : allOne [x] = true := by simp [allOne, h1]
  cases h with
  | @blk _ _ _ r _ rest sh hS hbw hx hlen hr he' hn hs =>
    have fam : ∀ (u : AW) (f : Nat), w.next ≤ u.next → Frm S w u → u.heap.get b = some (.cells (cs ++ rest) (.fam f)) → (S f ∨ w.next ≤ f) → f < u.next →
        ∃ v' w' S', u.insFam b n 1 (cs.take i ++ [x] ++ cs.drop i) = some (v', w') ∧ Buf S' w' v' 1 (n + 1) (cs.take i ++ [x] ++ cs.drop i) ∧ Frm S w w' ∧ Grown S S' w w' := by
      intro u f hle hfu hx hSf hfl
      refine ⟨.slice u.next 0 (n + 1) (.upTo 1), u.reborn f (cs.take i ++ [x] ++ cs.drop i), fun x => x = u.next, ?_, ?_, ?_, ?_⟩
      · simp only [AW.insFam, hx]
      · refine .blk (r := 0) (rest := []) (sh := .lax) rfl (Nat.lt_succ_self _) (by rw [List.append_nil]; exact T.get_put_same) ?_ (by simp) (by omega) (by omega) (.inr (.inl rfl))
        simp only [List.length_append, List.length_take, List.length_drop, List.length_cons, List.length_nil]; omega
      · refine hfu.trans (T := fun x => x = f ∨ u.next ≤ x) ⟨Nat.le_succ _, fun c hc hn => T.get_put_ne (by omega), fun c hc hn => T.get_put_ne fun e => hn (.inl e)⟩ (fun x hx h => h) ?_
        rintro x hx (rfl | h)
        · rcases hSf with h | h
          · exact h
          · omega
        · omega
      · rintro x rfl
        exact ⟨Nat.lt_succ_self _, .inr hle⟩
    have fnd : (w.found b (cs ++ rest)).alive b (.fam w.next) = true ∧ ∃ v' w' S', (w.found b (cs ++ rest)).insFam b n 1 (cs.take i ++ [x] ++ cs.drop i) = some (v', w') ∧ Buf S' w' v' 1 (n + 1) (cs.take i ++ [x] ++ cs.drop i) ∧ Frm S w w' ∧ Grown S S' w w' :=
      ⟨by simp only [AW.alive, AW.found, T.get_putk, if_true, Nat.beq_refl, Bool.true_or],
        fam _ w.next (Nat.le_succ _) ⟨Nat.le_succ _, fun c hc hn => T.get_put_ne fun e => hn (e ▸ hS), fun c hc hn => T.get_put_ne (by omega)⟩ T.get_put_same (.inr (Nat.le_refl _)) (Nat.lt_succ_self _)⟩
    have e1 : Nat.blt i n = true := by rw [natBlt, decide_eq_true hi]
    have e2 : Nat.blt 0 1 = true := rfl
    have e3 : Nat.ble ((n + 1) * bytes) 70368744177664 = true := Nat.ble_eq_true_of_le hb
    have e4 : Nat.ble (n + 1) 70368744177664 = true := Nat.ble_eq_true_of_le hb'
    rcases hs with rfl | rfl | ⟨f, F, rfl, g1, g2, g3, g4, g6, g5⟩
    · simp only [insPrim, e1, e2, e3, e4, hbv, hv, hvl, hld, hone, h2, hx, fnd.1]; exact fnd.2
    · simp only [insPrim, e1, e2, e3, e4, hbv, hv, hvl, hld, hone, h2, hx, fnd.1]; exact fnd.2
    · simp only [insPrim, e1, e2, e3, e4, hbv, hv, hvl, hld, hone, h2, hx]; exact fam w f (Nat.le_refl _) (Frm.refl _) hx (.inl g1) g2
end Go.AE
