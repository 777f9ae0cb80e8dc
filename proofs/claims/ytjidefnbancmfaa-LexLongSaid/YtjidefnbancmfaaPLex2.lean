/- A part of the proof. -/
import Derived.Test.YtjidefnbancmfaaPLex
set_option linter.unusedVariables false
set_option linter.unusedSimpArgs false
namespace Go.Proofs.Ytjidefnbancmfaa
open Go.AE Delphi
variable {tab : Tab}
theorem lexScan_ok (C : Codes tab) (E : ExtIdx tab) {s : List Nat} {aw : AW} {K : V → AW → Prop} (hb : ∀ x ∈ s, x < 256) (hs : s.length ≤ 1099511627776)
    (h1 : 4000 < s.length → K (.tuple [.nilslice, .int .i64 8]) aw)
    (h2 : s.length ≤ 4000 → (scan 0 s).2 = false → ∀ aw', Ext aw.next aw aw' → K (.tuple [.nilslice, .int .i64 4]) aw')
    (h3 : s.length ≤ 4000 → (scan 0 s).2 = true → ∀ v aw', Own aw.next aw' v 3 (scan 0 s).1.length (wdsCells (scan 0 s).1) → Ext aw.next aw aw' → K (.tuple [v, .int .i64 0]) aw') : WF tab 25 [.str s] aw K := by
  refine WF_of C.c25 rfl ?_
  by_cases hl : 4000 < s.length
  · refine WS_run 1000 (by simp only [go_sem, Nat.reduceAdd, Nat.reduceLT, Nat.reduceEqDiff, reduceIte, reduceCtorEq, k25, hl]; rfl) ?_
    refine WS_ret ⟨_, by simp only [go_sem, Nat.reduceAdd, Nat.reduceLT, Nat.reduceEqDiff, reduceIte, reduceCtorEq, k25]; rfl, ?_⟩
    exact h1 hl
  · refine WS_run 1000 (by simp only [go_sem, Nat.reduceAdd, Nat.reduceLT, Nat.reduceEqDiff, reduceIte, reduceCtorEq, k25, hl]; rfl) ?_
    refine WS_call (by simp only [go_sem, Nat.reduceAdd, Nat.reduceLT, Nat.reduceEqDiff, reduceIte, reduceCtorEq]) (by simp only [go_sem, Nat.reduceAdd, Nat.reduceLT, Nat.reduceEqDiff, reduceIte, reduceCtorEq]; rfl) ?_
    refine front_ok C E hb hs ?_
    intro v aw' ho hx
    cases hok : (scan 0 s).2 with
    | true =>
      refine WS_run 1000 (by simp only [go_sem, Nat.reduceAdd, Nat.reduceLT, Nat.reduceEqDiff, reduceIte, reduceCtorEq]; rfl) ?_
      refine WS_ret ⟨_, by simp only [go_sem, Nat.reduceAdd, Nat.reduceLT, Nat.reduceEqDiff, reduceIte, reduceCtorEq, k25]; rfl, ?_⟩
      exact h3 (by omega) hok v aw' ho hx
    | false =>
      refine WS_run 1000 (by simp only [go_sem, Nat.reduceAdd, Nat.reduceLT, Nat.reduceEqDiff, reduceIte, reduceCtorEq]; rfl) ?_
      refine WS_ret ⟨_, by simp only [go_sem, Nat.reduceAdd, Nat.reduceLT, Nat.reduceEqDiff, reduceIte, reduceCtorEq, k25]; rfl, ?_⟩
      exact h2 (by omega) hok aw' hx
theorem rsmall_ok (C : Codes tab) {c : Nat} {aw : AW} {K : V → AW → Prop} (h : K (.bool (isSmall c)) aw) : WF tab 65 [.int .u8 (Int.ofNat c)] aw K := by
  refine WF_of C.c65 rfl ?_
  unfold isSmall at h
  cases h1 : decide (97 ≤ c) <;> rw [h1] at h <;> refine WS_run 1000 (by simp only [go_sem, Nat.reduceAdd, Nat.reduceLT, Nat.reduceEqDiff, reduceIte, reduceCtorEq, k65, h1]; rfl) ?_ <;> refine WS_ret ⟨_, by simp only [go_sem, Nat.reduceAdd, Nat.reduceLT, Nat.reduceEqDiff, reduceIte, reduceCtorEq, k65]; rfl, ?_⟩ <;> exact h
theorem rdigit_ok (C : Codes tab) {c : Nat} {aw : AW} {K : V → AW → Prop} (h : K (.bool (isDigit c)) aw) : WF tab 66 [.int .u8 (Int.ofNat c)] aw K := by
  refine WF_of C.c66 rfl ?_
  unfold isDigit at h
  cases h1 : decide (48 ≤ c) <;> rw [h1] at h <;> refine WS_run 1000 (by simp only [go_sem, Nat.reduceAdd, Nat.reduceLT, Nat.reduceEqDiff, reduceIte, reduceCtorEq, k66, h1]; rfl) ?_ <;> refine WS_ret ⟨_, by simp only [go_sem, Nat.reduceAdd, Nat.reduceLT, Nat.reduceEqDiff, reduceIte, reduceCtorEq, k66]; rfl, ?_⟩ <;> exact h
theorem rgreat_ok (C : Codes tab) {c : Nat} {aw : AW} {K : V → AW → Prop} (h : K (.bool (isGreat c)) aw) : WF tab 67 [.int .u8 (Int.ofNat c)] aw K := by
  refine WF_of C.c67 rfl ?_
  unfold isGreat at h
  cases h1 : decide (65 ≤ c) <;> rw [h1] at h <;> refine WS_run 1000 (by simp only [go_sem, Nat.reduceAdd, Nat.reduceLT, Nat.reduceEqDiff, reduceIte, reduceCtorEq, k67, h1]; rfl) ?_ <;> refine WS_ret ⟨_, by simp only [go_sem, Nat.reduceAdd, Nat.reduceLT, Nat.reduceEqDiff, reduceIte, reduceCtorEq, k67]; rfl, ?_⟩ <;> exact h
theorem rl0 (C : Codes tab) {c : Nat} {t : List Nat} {S : List SI} {Q : Fr → AW → Prop} {fr : Fr} {aw : AW} (hs : (c :: t).length ≤ 4611686018427387904) {k0 : Nat}
    (hk0' : k0 ≤ (c :: t).length) (f0 : fr.get 0 = some (.str (c :: t))) (f4 : fr.get 4 = some (.int .i64 (Int.ofNat k0)))
    (h : ∀ f, f.get 0 = some (.str (c :: t)) → f.get 4 = some (.int .i64 (Int.ofNat ((k0 + (((c :: t).drop k0).takeWhile isNamed).length)))) → WS tab S f aw Q) :
    WS tab (.code (.loop k48_0) :: .endB 1 :: S) fr aw Q := by
  refine WS_loop (fun n f w => ∃ k, f.get 0 = some (.str (c :: t)) ∧ f.get 4 = some (.int .i64 (Int.ofNat k)) ∧ k0 + (((c :: t).drop k0).takeWhile isNamed).length = k + (((c :: t).drop k).takeWhile isNamed).length ∧ k ≤ (c :: t).length ∧ n = (c :: t).length - k ∧ w = aw) ?_ ((c :: t).length - k0) ⟨k0, f0, f4, rfl, hk0', rfl, rfl⟩
  rintro n f w ⟨k, f0, f4, hk, hkl, rfl, rfl⟩ ih
  generalize hS : c :: t = s at *
  by_cases hlt : k < s.length
  · obtain ⟨d, hc⟩ : ∃ d, s[k]? = some d := ⟨_, List.getElem?_eq_getElem hlt⟩
    have hd : s.drop k = d :: s.drop (k + 1) := by
      rw [List.drop_eq_getElem_cons hlt]; rw [List.getElem?_eq_getElem hlt] at hc; rw [Option.some.inj hc]
    have hw : IntKind.wrap .i64 (Int.ofNat k + 1) = Int.ofNat (k + 1) := wrap_succ (by omega)
    have yes : isNamed d = true → ∀ f', f'.get 0 = some (.str s) → f'.get 4 = some (.int .i64 (Int.ofNat (k + 1))) → WS tab (.code (.loop k48_0) :: .endB 1 :: S) f' w Q := by
      intro hp f' g0 g4
      refine ih (s.length - (k + 1)) _ _ (by omega) ⟨k + 1, g0, g4, ?_, by omega, rfl, rfl⟩
      rw [hk, hd, List.takeWhile_cons_of_pos hp, List.length_cons]; omega
    have no : isNamed d = false → ∀ f', f'.get 0 = some (.str s) → f'.get 4 = some (.int .i64 (Int.ofNat k)) → WS tab S f' w Q := by
      intro hp f' g0 g4
      refine h f' g0 ?_
      rw [hk, hd, List.takeWhile_cons_of_neg (by simp [hp])]; simpa using g4
    refine WS_run 1000 (by simp only [go_sem, Nat.reduceAdd, Nat.reduceLT, Nat.reduceEqDiff, reduceIte, reduceCtorEq, k48_0, f0, f4, hlt, hc]; rfl) ?_
    refine WS_call (by simp only [go_sem, Nat.reduceAdd, Nat.reduceLT, Nat.reduceEqDiff, reduceIte, reduceCtorEq]) (by simp only [go_sem, Nat.reduceAdd, Nat.reduceLT, Nat.reduceEqDiff, reduceIte, reduceCtorEq]; rfl) ?_
    refine rsmall_ok C ?_
    cases q1 : isSmall d with
    | true =>
      refine WS_run 1000 (by simp only [go_sem, Nat.reduceAdd, Nat.reduceLT, Nat.reduceEqDiff, reduceIte, reduceCtorEq, f4, hw]; rfl) ?_
      exact yes (by simp [isNamed, q1]) _ (by simp only [go_sem, Nat.reduceAdd, Nat.reduceLT, Nat.reduceEqDiff, reduceIte, reduceCtorEq, f0] <;> rfl) (by simp only [go_sem, Nat.reduceAdd, Nat.reduceLT, Nat.reduceEqDiff, reduceIte, reduceCtorEq] <;> rfl)
    | false =>
      refine WS_run 1000 (by simp only [go_sem, Nat.reduceAdd, Nat.reduceLT, Nat.reduceEqDiff, reduceIte, reduceCtorEq, f0, f4, hc]; rfl) ?_
      refine WS_call (by simp only [go_sem, Nat.reduceAdd, Nat.reduceLT, Nat.reduceEqDiff, reduceIte, reduceCtorEq]) (by simp only [go_sem, Nat.reduceAdd, Nat.reduceLT, Nat.reduceEqDiff, reduceIte, reduceCtorEq]; rfl) ?_
      refine rdigit_ok C ?_
      cases q2 : isDigit d with
      | true =>
        refine WS_run 1000 (by simp only [go_sem, Nat.reduceAdd, Nat.reduceLT, Nat.reduceEqDiff, reduceIte, reduceCtorEq, f4, hw]; rfl) ?_
        exact yes (by simp [isNamed, q1, q2]) _ (by simp only [go_sem, Nat.reduceAdd, Nat.reduceLT, Nat.reduceEqDiff, reduceIte, reduceCtorEq, f0] <;> rfl) (by simp only [go_sem, Nat.reduceAdd, Nat.reduceLT, Nat.reduceEqDiff, reduceIte, reduceCtorEq] <;> rfl)
      | false =>
        by_cases h95 : d = 95
        · refine WS_run 1000 (by simp only [go_sem, Nat.reduceAdd, Nat.reduceLT, Nat.reduceEqDiff, reduceIte, reduceCtorEq, f0, f4, hc, h95, hw]; rfl) ?_
          exact yes (by simp [isNamed, q1, q2, h95]) _ (by simp only [go_sem, Nat.reduceAdd, Nat.reduceLT, Nat.reduceEqDiff, reduceIte, reduceCtorEq, f0] <;> rfl) (by simp only [go_sem, Nat.reduceAdd, Nat.reduceLT, Nat.reduceEqDiff, reduceIte, reduceCtorEq] <;> rfl)
        · refine WS_runB 1000 (by simp only [go_sem, Nat.reduceAdd, Nat.reduceLT, Nat.reduceEqDiff, reduceIte, reduceCtorEq, f0, f4, hc, h95]; rfl) ?_
          exact no (by simp [isNamed, q1, q2, h95]) _ (by simp only [go_sem, Nat.reduceAdd, Nat.reduceLT, Nat.reduceEqDiff, reduceIte, reduceCtorEq, f0] <;> rfl) (by simp only [go_sem, Nat.reduceAdd, Nat.reduceLT, Nat.reduceEqDiff, reduceIte, reduceCtorEq, f4] <;> rfl)
  · refine WS_runB 1000 (by simp only [go_sem, Nat.reduceAdd, Nat.reduceLT, Nat.reduceEqDiff, reduceIte, reduceCtorEq, k48_0, f0, f4, hlt]; rfl) ?_
    refine h _ (by simp only [go_sem, Nat.reduceAdd, Nat.reduceLT, Nat.reduceEqDiff, reduceIte, reduceCtorEq, f0] <;> rfl) ?_
    have : k = s.length := by omega
    subst this
    rw [hk, List.drop_length]
    exact (by simp only [go_sem, Nat.reduceAdd, Nat.reduceLT, Nat.reduceEqDiff, reduceIte, reduceCtorEq, f4] <;> rfl)
theorem rl1 (C : Codes tab) {c : Nat} {t : List Nat} {S : List SI} {Q : Fr → AW → Prop} {fr : Fr} {aw : AW} (hs : (c :: t).length ≤ 4611686018427387904) {k0 : Nat}
    (hk0' : k0 ≤ (c :: t).length) (f0 : fr.get 0 = some (.str (c :: t))) (f4 : fr.get 4 = some (.int .i64 (Int.ofNat k0)))
    (h : ∀ f, f.get 0 = some (.str (c :: t)) → f.get 4 = some (.int .i64 (Int.ofNat ((k0 + (((c :: t).drop k0).takeWhile isVarC).length)))) → WS tab S f aw Q) :
    WS tab (.code (.loop k48_1) :: .endB 3 :: S) fr aw Q := by
  refine WS_loop (fun n f w => ∃ k, f.get 0 = some (.str (c :: t)) ∧ f.get 4 = some (.int .i64 (Int.ofNat k)) ∧ k0 + (((c :: t).drop k0).takeWhile isVarC).length = k + (((c :: t).drop k).takeWhile isVarC).length ∧ k ≤ (c :: t).length ∧ n = (c :: t).length - k ∧ w = aw) ?_ ((c :: t).length - k0) ⟨k0, f0, f4, rfl, hk0', rfl, rfl⟩
  rintro n f w ⟨k, f0, f4, hk, hkl, rfl, rfl⟩ ih
  generalize hS : c :: t = s at *
  by_cases hlt : k < s.length
  · obtain ⟨d, hc⟩ : ∃ d, s[k]? = some d := ⟨_, List.getElem?_eq_getElem hlt⟩
    have hd : s.drop k = d :: s.drop (k + 1) := by
      rw [List.drop_eq_getElem_cons hlt]; rw [List.getElem?_eq_getElem hlt] at hc; rw [Option.some.inj hc]
    have hw : IntKind.wrap .i64 (Int.ofNat k + 1) = Int.ofNat (k + 1) := wrap_succ (by omega)
    have yes : isVarC d = true → ∀ f', f'.get 0 = some (.str s) → f'.get 4 = some (.int .i64 (Int.ofNat (k + 1))) → WS tab (.code (.loop k48_1) :: .endB 3 :: S) f' w Q := by
      intro hp f' g0 g4
      refine ih (s.length - (k + 1)) _ _ (by omega) ⟨k + 1, g0, g4, ?_, by omega, rfl, rfl⟩
      rw [hk, hd, List.takeWhile_cons_of_pos hp, List.length_cons]; omega
    have no : isVarC d = false → ∀ f', f'.get 0 = some (.str s) → f'.get 4 = some (.int .i64 (Int.ofNat k)) → WS tab S f' w Q := by
      intro hp f' g0 g4
      refine h f' g0 ?_
      rw [hk, hd, List.takeWhile_cons_of_neg (by simp [hp])]; simpa using g4
    refine WS_run 1000 (by simp only [go_sem, Nat.reduceAdd, Nat.reduceLT, Nat.reduceEqDiff, reduceIte, reduceCtorEq, k48_1, f0, f4, hlt, hc]; rfl) ?_
    refine WS_call (by simp only [go_sem, Nat.reduceAdd, Nat.reduceLT, Nat.reduceEqDiff, reduceIte, reduceCtorEq]) (by simp only [go_sem, Nat.reduceAdd, Nat.reduceLT, Nat.reduceEqDiff, reduceIte, reduceCtorEq]; rfl) ?_
    refine rsmall_ok C ?_
    cases q1 : isSmall d with
    | true =>
      refine WS_run 1000 (by simp only [go_sem, Nat.reduceAdd, Nat.reduceLT, Nat.reduceEqDiff, reduceIte, reduceCtorEq, f4, hw]; rfl) ?_
      exact yes (by simp [isVarC, isNamed, q1]) _ (by simp only [go_sem, Nat.reduceAdd, Nat.reduceLT, Nat.reduceEqDiff, reduceIte, reduceCtorEq, f0] <;> rfl) (by simp only [go_sem, Nat.reduceAdd, Nat.reduceLT, Nat.reduceEqDiff, reduceIte, reduceCtorEq] <;> rfl)
    | false =>
      refine WS_run 1000 (by simp only [go_sem, Nat.reduceAdd, Nat.reduceLT, Nat.reduceEqDiff, reduceIte, reduceCtorEq, f0, f4, hc]; rfl) ?_
      refine WS_call (by simp only [go_sem, Nat.reduceAdd, Nat.reduceLT, Nat.reduceEqDiff, reduceIte, reduceCtorEq]) (by simp only [go_sem, Nat.reduceAdd, Nat.reduceLT, Nat.reduceEqDiff, reduceIte, reduceCtorEq]; rfl) ?_
      refine rgreat_ok C ?_
      cases q2 : isGreat d with
      | true =>
        refine WS_run 1000 (by simp only [go_sem, Nat.reduceAdd, Nat.reduceLT, Nat.reduceEqDiff, reduceIte, reduceCtorEq, f4, hw]; rfl) ?_
        exact yes (by simp [isVarC, isNamed, q1, q2]) _ (by simp only [go_sem, Nat.reduceAdd, Nat.reduceLT, Nat.reduceEqDiff, reduceIte, reduceCtorEq, f0] <;> rfl) (by simp only [go_sem, Nat.reduceAdd, Nat.reduceLT, Nat.reduceEqDiff, reduceIte, reduceCtorEq] <;> rfl)
      | false =>
        refine WS_run 1000 (by simp only [go_sem, Nat.reduceAdd, Nat.reduceLT, Nat.reduceEqDiff, reduceIte, reduceCtorEq, f0, f4, hc]; rfl) ?_
        refine WS_call (by simp only [go_sem, Nat.reduceAdd, Nat.reduceLT, Nat.reduceEqDiff, reduceIte, reduceCtorEq]) (by simp only [go_sem, Nat.reduceAdd, Nat.reduceLT, Nat.reduceEqDiff, reduceIte, reduceCtorEq]; rfl) ?_
        refine rdigit_ok C ?_
        cases q3 : isDigit d with
        | true =>
          refine WS_run 1000 (by simp only [go_sem, Nat.reduceAdd, Nat.reduceLT, Nat.reduceEqDiff, reduceIte, reduceCtorEq, f4, hw]; rfl) ?_
          exact yes (by simp [isVarC, isNamed, q1, q2, q3]) _ (by simp only [go_sem, Nat.reduceAdd, Nat.reduceLT, Nat.reduceEqDiff, reduceIte, reduceCtorEq, f0] <;> rfl) (by simp only [go_sem, Nat.reduceAdd, Nat.reduceLT, Nat.reduceEqDiff, reduceIte, reduceCtorEq] <;> rfl)
        | false =>
          by_cases h95 : d = 95
          · refine WS_run 1000 (by simp only [go_sem, Nat.reduceAdd, Nat.reduceLT, Nat.reduceEqDiff, reduceIte, reduceCtorEq, f0, f4, hc, h95, hw]; rfl) ?_
            exact yes (by simp [isVarC, isNamed, q1, q2, q3, h95]) _ (by simp only [go_sem, Nat.reduceAdd, Nat.reduceLT, Nat.reduceEqDiff, reduceIte, reduceCtorEq, f0] <;> rfl) (by simp only [go_sem, Nat.reduceAdd, Nat.reduceLT, Nat.reduceEqDiff, reduceIte, reduceCtorEq] <;> rfl)
          · refine WS_runB 1000 (by simp only [go_sem, Nat.reduceAdd, Nat.reduceLT, Nat.reduceEqDiff, reduceIte, reduceCtorEq, f0, f4, hc, h95]; rfl) ?_
            exact no (by simp [isVarC, isNamed, q1, q2, q3, h95]) _ (by simp only [go_sem, Nat.reduceAdd, Nat.reduceLT, Nat.reduceEqDiff, reduceIte, reduceCtorEq, f0] <;> rfl) (by simp only [go_sem, Nat.reduceAdd, Nat.reduceLT, Nat.reduceEqDiff, reduceIte, reduceCtorEq, f4] <;> rfl)
  · refine WS_runB 1000 (by simp only [go_sem, Nat.reduceAdd, Nat.reduceLT, Nat.reduceEqDiff, reduceIte, reduceCtorEq, k48_1, f0, f4, hlt]; rfl) ?_
    refine h _ (by simp only [go_sem, Nat.reduceAdd, Nat.reduceLT, Nat.reduceEqDiff, reduceIte, reduceCtorEq, f0] <;> rfl) ?_
    have : k = s.length := by omega
    subst this
    rw [hk, List.drop_length]
    exact (by simp only [go_sem, Nat.reduceAdd, Nat.reduceLT, Nat.reduceEqDiff, reduceIte, reduceCtorEq, f4] <;> rfl)
theorem rl3 (C : Codes tab) {c : Nat} {t : List Nat} {S : List SI} {Q : Fr → AW → Prop} {fr : Fr} {aw : AW} (hs : (c :: t).length ≤ 4611686018427387904) {k0 : Nat}
    (hk0' : k0 ≤ (c :: t).length) (f0 : fr.get 0 = some (.str (c :: t))) (f4 : fr.get 4 = some (.int .i64 (Int.ofNat k0)))
    (h : ∀ f, f.get 0 = some (.str (c :: t)) → f.get 4 = some (.int .i64 (Int.ofNat ((k0 + (((c :: t).drop k0).takeWhile isDigit).length)))) → WS tab S f aw Q) :
    WS tab (.code (.loop k48_3) :: .endB 5 :: S) fr aw Q := by
  refine WS_loop (fun n f w => ∃ k, f.get 0 = some (.str (c :: t)) ∧ f.get 4 = some (.int .i64 (Int.ofNat k)) ∧ k0 + (((c :: t).drop k0).takeWhile isDigit).length = k + (((c :: t).drop k).takeWhile isDigit).length ∧ k ≤ (c :: t).length ∧ n = (c :: t).length - k ∧ w = aw) ?_ ((c :: t).length - k0) ⟨k0, f0, f4, rfl, hk0', rfl, rfl⟩
  rintro n f w ⟨k, f0, f4, hk, hkl, rfl, rfl⟩ ih
  generalize hS : c :: t = s at *
  by_cases hlt : k < s.length
  · obtain ⟨d, hc⟩ : ∃ d, s[k]? = some d := ⟨_, List.getElem?_eq_getElem hlt⟩
    have hd : s.drop k = d :: s.drop (k + 1) := by
      rw [List.drop_eq_getElem_cons hlt]; rw [List.getElem?_eq_getElem hlt] at hc; rw [Option.some.inj hc]
    have hw : IntKind.wrap .i64 (Int.ofNat k + 1) = Int.ofNat (k + 1) := wrap_succ (by omega)
    have yes : isDigit d = true → ∀ f', f'.get 0 = some (.str s) → f'.get 4 = some (.int .i64 (Int.ofNat (k + 1))) → WS tab (.code (.loop k48_3) :: .endB 5 :: S) f' w Q := by
      intro hp f' g0 g4
      refine ih (s.length - (k + 1)) _ _ (by omega) ⟨k + 1, g0, g4, ?_, by omega, rfl, rfl⟩
      rw [hk, hd, List.takeWhile_cons_of_pos hp, List.length_cons]; omega
    have no : isDigit d = false → ∀ f', f'.get 0 = some (.str s) → f'.get 4 = some (.int .i64 (Int.ofNat k)) → WS tab S f' w Q := by
      intro hp f' g0 g4
      refine h f' g0 ?_
      rw [hk, hd, List.takeWhile_cons_of_neg (by simp [hp])]; simpa using g4
    refine WS_run 1000 (by simp only [go_sem, Nat.reduceAdd, Nat.reduceLT, Nat.reduceEqDiff, reduceIte, reduceCtorEq, k48_3, f0, f4, hlt, hc]; rfl) ?_
    refine WS_call (by simp only [go_sem, Nat.reduceAdd, Nat.reduceLT, Nat.reduceEqDiff, reduceIte, reduceCtorEq]) (by simp only [go_sem, Nat.reduceAdd, Nat.reduceLT, Nat.reduceEqDiff, reduceIte, reduceCtorEq]; rfl) ?_
    refine rdigit_ok C ?_
    cases q1 : isDigit d with
    | true =>
      refine WS_run 1000 (by simp only [go_sem, Nat.reduceAdd, Nat.reduceLT, Nat.reduceEqDiff, reduceIte, reduceCtorEq, f4, hw]; rfl) ?_
      exact yes (by simp [q1]) _ (by simp only [go_sem, Nat.reduceAdd, Nat.reduceLT, Nat.reduceEqDiff, reduceIte, reduceCtorEq, f0] <;> rfl) (by simp only [go_sem, Nat.reduceAdd, Nat.reduceLT, Nat.reduceEqDiff, reduceIte, reduceCtorEq] <;> rfl)
    | false =>
      refine WS_runB 1000 (by simp only [go_sem, Nat.reduceAdd, Nat.reduceLT, Nat.reduceEqDiff, reduceIte, reduceCtorEq]; rfl) ?_
      exact no (by simp [q1]) _ (by simp only [go_sem, Nat.reduceAdd, Nat.reduceLT, Nat.reduceEqDiff, reduceIte, reduceCtorEq, f0] <;> rfl) (by simp only [go_sem, Nat.reduceAdd, Nat.reduceLT, Nat.reduceEqDiff, reduceIte, reduceCtorEq, f4] <;> rfl)
  · refine WS_runB 1000 (by simp only [go_sem, Nat.reduceAdd, Nat.reduceLT, Nat.reduceEqDiff, reduceIte, reduceCtorEq, k48_3, f0, f4, hlt]; rfl) ?_
    refine h _ (by simp only [go_sem, Nat.reduceAdd, Nat.reduceLT, Nat.reduceEqDiff, reduceIte, reduceCtorEq, f0] <;> rfl) ?_
    have : k = s.length := by omega
    subst this
    rw [hk, List.drop_length]
    exact (by simp only [go_sem, Nat.reduceAdd, Nat.reduceLT, Nat.reduceEqDiff, reduceIte, reduceCtorEq, f4] <;> rfl)
end Go.Proofs.Ytjidefnbancmfaa
