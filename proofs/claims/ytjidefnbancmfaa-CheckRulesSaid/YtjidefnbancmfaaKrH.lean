/- A part of the proof: PLex2, PLex3, PLex4, XSyn, Ae33. -/
import Derived.Test.YtjidefnbancmfaaKrG
import Derived.ProofKit
import Derived.OpenShut
import Derived.Carry
import Derived.ChangeSame
import Derived.Below
set_option linter.unusedVariables false
set_option linter.unusedSimpArgs false
namespace Go.Proofs.Ytjidefnbancmfaa
open Go.AE Delphi
variable {tab : Tab}
theorem rsmall_ok (C : Codes tab) {c : Nat} {aw : AW} {K : V → AW → Prop} (h : K (.bool (isSmall c)) aw) : WF tab n_ref8_small [.int .u8 (Int.ofNat c)] aw K := by
  refine WF_of C.c_ref8_small rfl ?_
  unfold isSmall at h
  cases h1 : decide (97 ≤ c) <;> rw [h1] at h <;> refine WS_run 1000 (by simp only [go_sem, eRun_exit, Nat.reduceAdd, Nat.reduceLT, Nat.reduceEqDiff, reduceIte, reduceCtorEq, Int.reduceBEq, Int.reduceBNe, Int.reduceLT, Int.reduceLE, Int.reduceGT, Int.reduceGE, Int.reduceEq, Int.reduceAdd, Int.reduceSub, Int.reduceMul, Nat.reduceMul, Nat.reduceSub, Nat.reduceLeDiff, k_ref8_small, h1]; rfl) ?_ <;> refine WS_ret ⟨_, by simp only [go_sem, eRun_exit, Nat.reduceAdd, Nat.reduceLT, Nat.reduceEqDiff, reduceIte, reduceCtorEq, Int.reduceBEq, Int.reduceBNe, Int.reduceLT, Int.reduceLE, Int.reduceGT, Int.reduceGE, Int.reduceEq, Int.reduceAdd, Int.reduceSub, Int.reduceMul, Nat.reduceMul, Nat.reduceSub, Nat.reduceLeDiff, k_ref8_small]; rfl, ?_⟩ <;> exact h
theorem rdigit_ok (C : Codes tab) {c : Nat} {aw : AW} {K : V → AW → Prop} (h : K (.bool (isDigit c)) aw) : WF tab n_ref8_digit [.int .u8 (Int.ofNat c)] aw K := by
  refine WF_of C.c_ref8_digit rfl ?_
  unfold isDigit at h
  cases h1 : decide (48 ≤ c) <;> rw [h1] at h <;> refine WS_run 1000 (by simp only [go_sem, eRun_exit, Nat.reduceAdd, Nat.reduceLT, Nat.reduceEqDiff, reduceIte, reduceCtorEq, Int.reduceBEq, Int.reduceBNe, Int.reduceLT, Int.reduceLE, Int.reduceGT, Int.reduceGE, Int.reduceEq, Int.reduceAdd, Int.reduceSub, Int.reduceMul, Nat.reduceMul, Nat.reduceSub, Nat.reduceLeDiff, k_ref8_digit, h1]; rfl) ?_ <;> refine WS_ret ⟨_, by simp only [go_sem, eRun_exit, Nat.reduceAdd, Nat.reduceLT, Nat.reduceEqDiff, reduceIte, reduceCtorEq, Int.reduceBEq, Int.reduceBNe, Int.reduceLT, Int.reduceLE, Int.reduceGT, Int.reduceGE, Int.reduceEq, Int.reduceAdd, Int.reduceSub, Int.reduceMul, Nat.reduceMul, Nat.reduceSub, Nat.reduceLeDiff, k_ref8_digit]; rfl, ?_⟩ <;> exact h
theorem rgreat_ok (C : Codes tab) {c : Nat} {aw : AW} {K : V → AW → Prop} (h : K (.bool (isGreat c)) aw) : WF tab n_ref8_great [.int .u8 (Int.ofNat c)] aw K := by
  refine WF_of C.c_ref8_great rfl ?_
  unfold isGreat at h
  cases h1 : decide (65 ≤ c) <;> rw [h1] at h <;> refine WS_run 1000 (by simp only [go_sem, eRun_exit, Nat.reduceAdd, Nat.reduceLT, Nat.reduceEqDiff, reduceIte, reduceCtorEq, Int.reduceBEq, Int.reduceBNe, Int.reduceLT, Int.reduceLE, Int.reduceGT, Int.reduceGE, Int.reduceEq, Int.reduceAdd, Int.reduceSub, Int.reduceMul, Nat.reduceMul, Nat.reduceSub, Nat.reduceLeDiff, k_ref8_great, h1]; rfl) ?_ <;> refine WS_ret ⟨_, by simp only [go_sem, eRun_exit, Nat.reduceAdd, Nat.reduceLT, Nat.reduceEqDiff, reduceIte, reduceCtorEq, Int.reduceBEq, Int.reduceBNe, Int.reduceLT, Int.reduceLE, Int.reduceGT, Int.reduceGE, Int.reduceEq, Int.reduceAdd, Int.reduceSub, Int.reduceMul, Nat.reduceMul, Nat.reduceSub, Nat.reduceLeDiff, k_ref8_great]; rfl, ?_⟩ <;> exact h
theorem rl0 (C : Codes tab) {c : Nat} {t : List Nat} {S : List SI} {Q : Fr → AW → Prop} {fr : Fr} {aw : AW} (hs : (c :: t).length ≤ 4611686018427387904) {k0 : Nat}
    (hk0' : k0 ≤ (c :: t).length) (f0 : fr.get 0 = some (.str (c :: t))) (f4 : fr.get 4 = some (.int .i64 (Int.ofNat k0)))
    (h : ∀ f, f.get 0 = some (.str (c :: t)) → f.get 4 = some (.int .i64 (Int.ofNat ((k0 + (((c :: t).drop k0).takeWhile isNamed).length)))) → WS tab S f aw Q) :
    WS tab (.code (.loop k_ref8_word_p0) :: .endB 1 :: S) fr aw Q := by
  refine WS_loop (fun n f w => ∃ k, f.get 0 = some (.str (c :: t)) ∧ f.get 4 = some (.int .i64 (Int.ofNat k)) ∧ k0 + (((c :: t).drop k0).takeWhile isNamed).length = k + (((c :: t).drop k).takeWhile isNamed).length ∧ k ≤ (c :: t).length ∧ n = (c :: t).length - k ∧ w = aw) ?_ ((c :: t).length - k0) ⟨k0, f0, f4, rfl, hk0', rfl, rfl⟩
  rintro n f w ⟨k, f0, f4, hk, hkl, rfl, rfl⟩ ih
  generalize hS : c :: t = s at *
  by_cases hlt : k < s.length
  · obtain ⟨d, hc⟩ : ∃ d, s[k]? = some d := ⟨_, List.getElem?_eq_getElem hlt⟩
    have hd : s.drop k = d :: s.drop (k + 1) := by
      rw [List.drop_eq_getElem_cons hlt]; rw [List.getElem?_eq_getElem hlt] at hc; rw [Option.some.inj hc]
    have hw : IntKind.wrap .i64 (Int.ofNat k + 1) = Int.ofNat (k + 1) := wrap_succ (by omega)
    have yes : isNamed d = true → ∀ f', f'.get 0 = some (.str s) → f'.get 4 = some (.int .i64 (Int.ofNat (k + 1))) → WS tab (.code (.loop k_ref8_word_p0) :: .endB 1 :: S) f' w Q := by
      intro hp f' g0 g4
      refine ih (s.length - (k + 1)) _ _ (by omega) ⟨k + 1, g0, g4, ?_, by omega, rfl, rfl⟩
      rw [hk, hd, List.takeWhile_cons_of_pos hp, List.length_cons]; omega
    have no : isNamed d = false → ∀ f', f'.get 0 = some (.str s) → f'.get 4 = some (.int .i64 (Int.ofNat k)) → WS tab S f' w Q := by
      intro hp f' g0 g4
      refine h f' g0 ?_
      rw [hk, hd, List.takeWhile_cons_of_neg (by simp [hp])]; simpa using g4
    refine WS_run 1000 (by simp only [go_sem, eRun_exit, Nat.reduceAdd, Nat.reduceLT, Nat.reduceEqDiff, reduceIte, reduceCtorEq, Int.reduceBEq, Int.reduceBNe, Int.reduceLT, Int.reduceLE, Int.reduceGT, Int.reduceGE, Int.reduceEq, Int.reduceAdd, Int.reduceSub, Int.reduceMul, Nat.reduceMul, Nat.reduceSub, Nat.reduceLeDiff, k_ref8_word_p0, f0, f4, hlt, hc]; rfl) ?_
    refine WS_call (by simp only [go_sem, eRun_exit, Nat.reduceAdd, Nat.reduceLT, Nat.reduceEqDiff, reduceIte, reduceCtorEq, Int.reduceBEq, Int.reduceBNe, Int.reduceLT, Int.reduceLE, Int.reduceGT, Int.reduceGE, Int.reduceEq, Int.reduceAdd, Int.reduceSub, Int.reduceMul, Nat.reduceMul, Nat.reduceSub, Nat.reduceLeDiff]) (by simp only [go_sem, eRun_exit, Nat.reduceAdd, Nat.reduceLT, Nat.reduceEqDiff, reduceIte, reduceCtorEq, Int.reduceBEq, Int.reduceBNe, Int.reduceLT, Int.reduceLE, Int.reduceGT, Int.reduceGE, Int.reduceEq, Int.reduceAdd, Int.reduceSub, Int.reduceMul, Nat.reduceMul, Nat.reduceSub, Nat.reduceLeDiff]; rfl) ?_
    refine rsmall_ok C ?_
    cases q1 : isSmall d with
    | true =>
      refine WS_run 1000 (by simp only [go_sem, eRun_exit, Nat.reduceAdd, Nat.reduceLT, Nat.reduceEqDiff, reduceIte, reduceCtorEq, Int.reduceBEq, Int.reduceBNe, Int.reduceLT, Int.reduceLE, Int.reduceGT, Int.reduceGE, Int.reduceEq, Int.reduceAdd, Int.reduceSub, Int.reduceMul, Nat.reduceMul, Nat.reduceSub, Nat.reduceLeDiff, f4, hw]; rfl) ?_
      exact yes (by simp [isNamed, q1]) _ (by simp only [go_sem, eRun_exit, Nat.reduceAdd, Nat.reduceLT, Nat.reduceEqDiff, reduceIte, reduceCtorEq, Int.reduceBEq, Int.reduceBNe, Int.reduceLT, Int.reduceLE, Int.reduceGT, Int.reduceGE, Int.reduceEq, Int.reduceAdd, Int.reduceSub, Int.reduceMul, Nat.reduceMul, Nat.reduceSub, Nat.reduceLeDiff, f0] <;> rfl) (by simp only [go_sem, eRun_exit, Nat.reduceAdd, Nat.reduceLT, Nat.reduceEqDiff, reduceIte, reduceCtorEq, Int.reduceBEq, Int.reduceBNe, Int.reduceLT, Int.reduceLE, Int.reduceGT, Int.reduceGE, Int.reduceEq, Int.reduceAdd, Int.reduceSub, Int.reduceMul, Nat.reduceMul, Nat.reduceSub, Nat.reduceLeDiff] <;> rfl)
    | false =>
      refine WS_run 1000 (by simp only [go_sem, eRun_exit, Nat.reduceAdd, Nat.reduceLT, Nat.reduceEqDiff, reduceIte, reduceCtorEq, Int.reduceBEq, Int.reduceBNe, Int.reduceLT, Int.reduceLE, Int.reduceGT, Int.reduceGE, Int.reduceEq, Int.reduceAdd, Int.reduceSub, Int.reduceMul, Nat.reduceMul, Nat.reduceSub, Nat.reduceLeDiff, f0, f4, hc]; rfl) ?_
      refine WS_call (by simp only [go_sem, eRun_exit, Nat.reduceAdd, Nat.reduceLT, Nat.reduceEqDiff, reduceIte, reduceCtorEq, Int.reduceBEq, Int.reduceBNe, Int.reduceLT, Int.reduceLE, Int.reduceGT, Int.reduceGE, Int.reduceEq, Int.reduceAdd, Int.reduceSub, Int.reduceMul, Nat.reduceMul, Nat.reduceSub, Nat.reduceLeDiff]) (by simp only [go_sem, eRun_exit, Nat.reduceAdd, Nat.reduceLT, Nat.reduceEqDiff, reduceIte, reduceCtorEq, Int.reduceBEq, Int.reduceBNe, Int.reduceLT, Int.reduceLE, Int.reduceGT, Int.reduceGE, Int.reduceEq, Int.reduceAdd, Int.reduceSub, Int.reduceMul, Nat.reduceMul, Nat.reduceSub, Nat.reduceLeDiff]; rfl) ?_
      refine rdigit_ok C ?_
      cases q2 : isDigit d with
      | true =>
        refine WS_run 1000 (by simp only [go_sem, eRun_exit, Nat.reduceAdd, Nat.reduceLT, Nat.reduceEqDiff, reduceIte, reduceCtorEq, Int.reduceBEq, Int.reduceBNe, Int.reduceLT, Int.reduceLE, Int.reduceGT, Int.reduceGE, Int.reduceEq, Int.reduceAdd, Int.reduceSub, Int.reduceMul, Nat.reduceMul, Nat.reduceSub, Nat.reduceLeDiff, f4, hw]; rfl) ?_
        exact yes (by simp [isNamed, q1, q2]) _ (by simp only [go_sem, eRun_exit, Nat.reduceAdd, Nat.reduceLT, Nat.reduceEqDiff, reduceIte, reduceCtorEq, Int.reduceBEq, Int.reduceBNe, Int.reduceLT, Int.reduceLE, Int.reduceGT, Int.reduceGE, Int.reduceEq, Int.reduceAdd, Int.reduceSub, Int.reduceMul, Nat.reduceMul, Nat.reduceSub, Nat.reduceLeDiff, f0] <;> rfl) (by simp only [go_sem, eRun_exit, Nat.reduceAdd, Nat.reduceLT, Nat.reduceEqDiff, reduceIte, reduceCtorEq, Int.reduceBEq, Int.reduceBNe, Int.reduceLT, Int.reduceLE, Int.reduceGT, Int.reduceGE, Int.reduceEq, Int.reduceAdd, Int.reduceSub, Int.reduceMul, Nat.reduceMul, Nat.reduceSub, Nat.reduceLeDiff] <;> rfl)
      | false =>
        by_cases h95 : d = 95
        · refine WS_run 1000 (by simp only [go_sem, eRun_exit, Nat.reduceAdd, Nat.reduceLT, Nat.reduceEqDiff, reduceIte, reduceCtorEq, Int.reduceBEq, Int.reduceBNe, Int.reduceLT, Int.reduceLE, Int.reduceGT, Int.reduceGE, Int.reduceEq, Int.reduceAdd, Int.reduceSub, Int.reduceMul, Nat.reduceMul, Nat.reduceSub, Nat.reduceLeDiff, f0, f4, hc, h95, hw]; rfl) ?_
          exact yes (by simp [isNamed, q1, q2, h95]) _ (by simp only [go_sem, eRun_exit, Nat.reduceAdd, Nat.reduceLT, Nat.reduceEqDiff, reduceIte, reduceCtorEq, Int.reduceBEq, Int.reduceBNe, Int.reduceLT, Int.reduceLE, Int.reduceGT, Int.reduceGE, Int.reduceEq, Int.reduceAdd, Int.reduceSub, Int.reduceMul, Nat.reduceMul, Nat.reduceSub, Nat.reduceLeDiff, f0] <;> rfl) (by simp only [go_sem, eRun_exit, Nat.reduceAdd, Nat.reduceLT, Nat.reduceEqDiff, reduceIte, reduceCtorEq, Int.reduceBEq, Int.reduceBNe, Int.reduceLT, Int.reduceLE, Int.reduceGT, Int.reduceGE, Int.reduceEq, Int.reduceAdd, Int.reduceSub, Int.reduceMul, Nat.reduceMul, Nat.reduceSub, Nat.reduceLeDiff] <;> rfl)
        · refine WS_runB 1000 (by simp only [go_sem, eRun_exit, Nat.reduceAdd, Nat.reduceLT, Nat.reduceEqDiff, reduceIte, reduceCtorEq, Int.reduceBEq, Int.reduceBNe, Int.reduceLT, Int.reduceLE, Int.reduceGT, Int.reduceGE, Int.reduceEq, Int.reduceAdd, Int.reduceSub, Int.reduceMul, Nat.reduceMul, Nat.reduceSub, Nat.reduceLeDiff, f0, f4, hc, h95]; rfl) ?_
          exact no (by simp [isNamed, q1, q2, h95]) _ (by simp only [go_sem, eRun_exit, Nat.reduceAdd, Nat.reduceLT, Nat.reduceEqDiff, reduceIte, reduceCtorEq, Int.reduceBEq, Int.reduceBNe, Int.reduceLT, Int.reduceLE, Int.reduceGT, Int.reduceGE, Int.reduceEq, Int.reduceAdd, Int.reduceSub, Int.reduceMul, Nat.reduceMul, Nat.reduceSub, Nat.reduceLeDiff, f0] <;> rfl) (by simp only [go_sem, eRun_exit, Nat.reduceAdd, Nat.reduceLT, Nat.reduceEqDiff, reduceIte, reduceCtorEq, Int.reduceBEq, Int.reduceBNe, Int.reduceLT, Int.reduceLE, Int.reduceGT, Int.reduceGE, Int.reduceEq, Int.reduceAdd, Int.reduceSub, Int.reduceMul, Nat.reduceMul, Nat.reduceSub, Nat.reduceLeDiff, f4] <;> rfl)
  · refine WS_runB 1000 (by simp only [go_sem, eRun_exit, Nat.reduceAdd, Nat.reduceLT, Nat.reduceEqDiff, reduceIte, reduceCtorEq, Int.reduceBEq, Int.reduceBNe, Int.reduceLT, Int.reduceLE, Int.reduceGT, Int.reduceGE, Int.reduceEq, Int.reduceAdd, Int.reduceSub, Int.reduceMul, Nat.reduceMul, Nat.reduceSub, Nat.reduceLeDiff, k_ref8_word_p0, f0, f4, hlt]; rfl) ?_
    refine h _ (by simp only [go_sem, eRun_exit, Nat.reduceAdd, Nat.reduceLT, Nat.reduceEqDiff, reduceIte, reduceCtorEq, Int.reduceBEq, Int.reduceBNe, Int.reduceLT, Int.reduceLE, Int.reduceGT, Int.reduceGE, Int.reduceEq, Int.reduceAdd, Int.reduceSub, Int.reduceMul, Nat.reduceMul, Nat.reduceSub, Nat.reduceLeDiff, f0] <;> rfl) ?_
    have : k = s.length := by omega
    subst this
    rw [hk, List.drop_length]
    exact (by simp only [go_sem, eRun_exit, Nat.reduceAdd, Nat.reduceLT, Nat.reduceEqDiff, reduceIte, reduceCtorEq, Int.reduceBEq, Int.reduceBNe, Int.reduceLT, Int.reduceLE, Int.reduceGT, Int.reduceGE, Int.reduceEq, Int.reduceAdd, Int.reduceSub, Int.reduceMul, Nat.reduceMul, Nat.reduceSub, Nat.reduceLeDiff, f4] <;> rfl)
theorem rl1 (C : Codes tab) {c : Nat} {t : List Nat} {S : List SI} {Q : Fr → AW → Prop} {fr : Fr} {aw : AW} (hs : (c :: t).length ≤ 4611686018427387904) {k0 : Nat}
    (hk0' : k0 ≤ (c :: t).length) (f0 : fr.get 0 = some (.str (c :: t))) (f4 : fr.get 4 = some (.int .i64 (Int.ofNat k0)))
    (h : ∀ f, f.get 0 = some (.str (c :: t)) → f.get 4 = some (.int .i64 (Int.ofNat ((k0 + (((c :: t).drop k0).takeWhile isVarC).length)))) → WS tab S f aw Q) :
    WS tab (.code (.loop k_ref8_word_p1) :: .endB 3 :: S) fr aw Q := by
  refine WS_loop (fun n f w => ∃ k, f.get 0 = some (.str (c :: t)) ∧ f.get 4 = some (.int .i64 (Int.ofNat k)) ∧ k0 + (((c :: t).drop k0).takeWhile isVarC).length = k + (((c :: t).drop k).takeWhile isVarC).length ∧ k ≤ (c :: t).length ∧ n = (c :: t).length - k ∧ w = aw) ?_ ((c :: t).length - k0) ⟨k0, f0, f4, rfl, hk0', rfl, rfl⟩
  rintro n f w ⟨k, f0, f4, hk, hkl, rfl, rfl⟩ ih
  generalize hS : c :: t = s at *
  by_cases hlt : k < s.length
  · obtain ⟨d, hc⟩ : ∃ d, s[k]? = some d := ⟨_, List.getElem?_eq_getElem hlt⟩
    have hd : s.drop k = d :: s.drop (k + 1) := by
      rw [List.drop_eq_getElem_cons hlt]; rw [List.getElem?_eq_getElem hlt] at hc; rw [Option.some.inj hc]
    have hw : IntKind.wrap .i64 (Int.ofNat k + 1) = Int.ofNat (k + 1) := wrap_succ (by omega)
    have yes : isVarC d = true → ∀ f', f'.get 0 = some (.str s) → f'.get 4 = some (.int .i64 (Int.ofNat (k + 1))) → WS tab (.code (.loop k_ref8_word_p1) :: .endB 3 :: S) f' w Q := by
      intro hp f' g0 g4
      refine ih (s.length - (k + 1)) _ _ (by omega) ⟨k + 1, g0, g4, ?_, by omega, rfl, rfl⟩
      rw [hk, hd, List.takeWhile_cons_of_pos hp, List.length_cons]; omega
    have no : isVarC d = false → ∀ f', f'.get 0 = some (.str s) → f'.get 4 = some (.int .i64 (Int.ofNat k)) → WS tab S f' w Q := by
      intro hp f' g0 g4
      refine h f' g0 ?_
      rw [hk, hd, List.takeWhile_cons_of_neg (by simp [hp])]; simpa using g4
    refine WS_run 1000 (by simp only [go_sem, eRun_exit, Nat.reduceAdd, Nat.reduceLT, Nat.reduceEqDiff, reduceIte, reduceCtorEq, Int.reduceBEq, Int.reduceBNe, Int.reduceLT, Int.reduceLE, Int.reduceGT, Int.reduceGE, Int.reduceEq, Int.reduceAdd, Int.reduceSub, Int.reduceMul, Nat.reduceMul, Nat.reduceSub, Nat.reduceLeDiff, k_ref8_word_p1, f0, f4, hlt, hc]; rfl) ?_
    refine WS_call (by simp only [go_sem, eRun_exit, Nat.reduceAdd, Nat.reduceLT, Nat.reduceEqDiff, reduceIte, reduceCtorEq, Int.reduceBEq, Int.reduceBNe, Int.reduceLT, Int.reduceLE, Int.reduceGT, Int.reduceGE, Int.reduceEq, Int.reduceAdd, Int.reduceSub, Int.reduceMul, Nat.reduceMul, Nat.reduceSub, Nat.reduceLeDiff]) (by simp only [go_sem, eRun_exit, Nat.reduceAdd, Nat.reduceLT, Nat.reduceEqDiff, reduceIte, reduceCtorEq, Int.reduceBEq, Int.reduceBNe, Int.reduceLT, Int.reduceLE, Int.reduceGT, Int.reduceGE, Int.reduceEq, Int.reduceAdd, Int.reduceSub, Int.reduceMul, Nat.reduceMul, Nat.reduceSub, Nat.reduceLeDiff]; rfl) ?_
    refine rsmall_ok C ?_
    cases q1 : isSmall d with
    | true =>
      refine WS_run 1000 (by simp only [go_sem, eRun_exit, Nat.reduceAdd, Nat.reduceLT, Nat.reduceEqDiff, reduceIte, reduceCtorEq, Int.reduceBEq, Int.reduceBNe, Int.reduceLT, Int.reduceLE, Int.reduceGT, Int.reduceGE, Int.reduceEq, Int.reduceAdd, Int.reduceSub, Int.reduceMul, Nat.reduceMul, Nat.reduceSub, Nat.reduceLeDiff, f4, hw]; rfl) ?_
      exact yes (by simp [isVarC, isNamed, q1]) _ (by simp only [go_sem, eRun_exit, Nat.reduceAdd, Nat.reduceLT, Nat.reduceEqDiff, reduceIte, reduceCtorEq, Int.reduceBEq, Int.reduceBNe, Int.reduceLT, Int.reduceLE, Int.reduceGT, Int.reduceGE, Int.reduceEq, Int.reduceAdd, Int.reduceSub, Int.reduceMul, Nat.reduceMul, Nat.reduceSub, Nat.reduceLeDiff, f0] <;> rfl) (by simp only [go_sem, eRun_exit, Nat.reduceAdd, Nat.reduceLT, Nat.reduceEqDiff, reduceIte, reduceCtorEq, Int.reduceBEq, Int.reduceBNe, Int.reduceLT, Int.reduceLE, Int.reduceGT, Int.reduceGE, Int.reduceEq, Int.reduceAdd, Int.reduceSub, Int.reduceMul, Nat.reduceMul, Nat.reduceSub, Nat.reduceLeDiff] <;> rfl)
    | false =>
      refine WS_run 1000 (by simp only [go_sem, eRun_exit, Nat.reduceAdd, Nat.reduceLT, Nat.reduceEqDiff, reduceIte, reduceCtorEq, Int.reduceBEq, Int.reduceBNe, Int.reduceLT, Int.reduceLE, Int.reduceGT, Int.reduceGE, Int.reduceEq, Int.reduceAdd, Int.reduceSub, Int.reduceMul, Nat.reduceMul, Nat.reduceSub, Nat.reduceLeDiff, f0, f4, hc]; rfl) ?_
      refine WS_call (by simp only [go_sem, eRun_exit, Nat.reduceAdd, Nat.reduceLT, Nat.reduceEqDiff, reduceIte, reduceCtorEq, Int.reduceBEq, Int.reduceBNe, Int.reduceLT, Int.reduceLE, Int.reduceGT, Int.reduceGE, Int.reduceEq, Int.reduceAdd, Int.reduceSub, Int.reduceMul, Nat.reduceMul, Nat.reduceSub, Nat.reduceLeDiff]) (by simp only [go_sem, eRun_exit, Nat.reduceAdd, Nat.reduceLT, Nat.reduceEqDiff, reduceIte, reduceCtorEq, Int.reduceBEq, Int.reduceBNe, Int.reduceLT, Int.reduceLE, Int.reduceGT, Int.reduceGE, Int.reduceEq, Int.reduceAdd, Int.reduceSub, Int.reduceMul, Nat.reduceMul, Nat.reduceSub, Nat.reduceLeDiff]; rfl) ?_
      refine rgreat_ok C ?_
      cases q2 : isGreat d with
      | true =>
        refine WS_run 1000 (by simp only [go_sem, eRun_exit, Nat.reduceAdd, Nat.reduceLT, Nat.reduceEqDiff, reduceIte, reduceCtorEq, Int.reduceBEq, Int.reduceBNe, Int.reduceLT, Int.reduceLE, Int.reduceGT, Int.reduceGE, Int.reduceEq, Int.reduceAdd, Int.reduceSub, Int.reduceMul, Nat.reduceMul, Nat.reduceSub, Nat.reduceLeDiff, f4, hw]; rfl) ?_
        exact yes (by simp [isVarC, isNamed, q1, q2]) _ (by simp only [go_sem, eRun_exit, Nat.reduceAdd, Nat.reduceLT, Nat.reduceEqDiff, reduceIte, reduceCtorEq, Int.reduceBEq, Int.reduceBNe, Int.reduceLT, Int.reduceLE, Int.reduceGT, Int.reduceGE, Int.reduceEq, Int.reduceAdd, Int.reduceSub, Int.reduceMul, Nat.reduceMul, Nat.reduceSub, Nat.reduceLeDiff, f0] <;> rfl) (by simp only [go_sem, eRun_exit, Nat.reduceAdd, Nat.reduceLT, Nat.reduceEqDiff, reduceIte, reduceCtorEq, Int.reduceBEq, Int.reduceBNe, Int.reduceLT, Int.reduceLE, Int.reduceGT, Int.reduceGE, Int.reduceEq, Int.reduceAdd, Int.reduceSub, Int.reduceMul, Nat.reduceMul, Nat.reduceSub, Nat.reduceLeDiff] <;> rfl)
      | false =>
        refine WS_run 1000 (by simp only [go_sem, eRun_exit, Nat.reduceAdd, Nat.reduceLT, Nat.reduceEqDiff, reduceIte, reduceCtorEq, Int.reduceBEq, Int.reduceBNe, Int.reduceLT, Int.reduceLE, Int.reduceGT, Int.reduceGE, Int.reduceEq, Int.reduceAdd, Int.reduceSub, Int.reduceMul, Nat.reduceMul, Nat.reduceSub, Nat.reduceLeDiff, f0, f4, hc]; rfl) ?_
        refine WS_call (by simp only [go_sem, eRun_exit, Nat.reduceAdd, Nat.reduceLT, Nat.reduceEqDiff, reduceIte, reduceCtorEq, Int.reduceBEq, Int.reduceBNe, Int.reduceLT, Int.reduceLE, Int.reduceGT, Int.reduceGE, Int.reduceEq, Int.reduceAdd, Int.reduceSub, Int.reduceMul, Nat.reduceMul, Nat.reduceSub, Nat.reduceLeDiff]) (by simp only [go_sem, eRun_exit, Nat.reduceAdd, Nat.reduceLT, Nat.reduceEqDiff, reduceIte, reduceCtorEq, Int.reduceBEq, Int.reduceBNe, Int.reduceLT, Int.reduceLE, Int.reduceGT, Int.reduceGE, Int.reduceEq, Int.reduceAdd, Int.reduceSub, Int.reduceMul, Nat.reduceMul, Nat.reduceSub, Nat.reduceLeDiff]; rfl) ?_
        refine rdigit_ok C ?_
        cases q3 : isDigit d with
        | true =>
          refine WS_run 1000 (by simp only [go_sem, eRun_exit, Nat.reduceAdd, Nat.reduceLT, Nat.reduceEqDiff, reduceIte, reduceCtorEq, Int.reduceBEq, Int.reduceBNe, Int.reduceLT, Int.reduceLE, Int.reduceGT, Int.reduceGE, Int.reduceEq, Int.reduceAdd, Int.reduceSub, Int.reduceMul, Nat.reduceMul, Nat.reduceSub, Nat.reduceLeDiff, f4, hw]; rfl) ?_
          exact yes (by simp [isVarC, isNamed, q1, q2, q3]) _ (by simp only [go_sem, eRun_exit, Nat.reduceAdd, Nat.reduceLT, Nat.reduceEqDiff, reduceIte, reduceCtorEq, Int.reduceBEq, Int.reduceBNe, Int.reduceLT, Int.reduceLE, Int.reduceGT, Int.reduceGE, Int.reduceEq, Int.reduceAdd, Int.reduceSub, Int.reduceMul, Nat.reduceMul, Nat.reduceSub, Nat.reduceLeDiff, f0] <;> rfl) (by simp only [go_sem, eRun_exit, Nat.reduceAdd, Nat.reduceLT, Nat.reduceEqDiff, reduceIte, reduceCtorEq, Int.reduceBEq, Int.reduceBNe, Int.reduceLT, Int.reduceLE, Int.reduceGT, Int.reduceGE, Int.reduceEq, Int.reduceAdd, Int.reduceSub, Int.reduceMul, Nat.reduceMul, Nat.reduceSub, Nat.reduceLeDiff] <;> rfl)
        | false =>
          by_cases h95 : d = 95
          · refine WS_run 1000 (by simp only [go_sem, eRun_exit, Nat.reduceAdd, Nat.reduceLT, Nat.reduceEqDiff, reduceIte, reduceCtorEq, Int.reduceBEq, Int.reduceBNe, Int.reduceLT, Int.reduceLE, Int.reduceGT, Int.reduceGE, Int.reduceEq, Int.reduceAdd, Int.reduceSub, Int.reduceMul, Nat.reduceMul, Nat.reduceSub, Nat.reduceLeDiff, f0, f4, hc, h95, hw]; rfl) ?_
            exact yes (by simp [isVarC, isNamed, q1, q2, q3, h95]) _ (by simp only [go_sem, eRun_exit, Nat.reduceAdd, Nat.reduceLT, Nat.reduceEqDiff, reduceIte, reduceCtorEq, Int.reduceBEq, Int.reduceBNe, Int.reduceLT, Int.reduceLE, Int.reduceGT, Int.reduceGE, Int.reduceEq, Int.reduceAdd, Int.reduceSub, Int.reduceMul, Nat.reduceMul, Nat.reduceSub, Nat.reduceLeDiff, f0] <;> rfl) (by simp only [go_sem, eRun_exit, Nat.reduceAdd, Nat.reduceLT, Nat.reduceEqDiff, reduceIte, reduceCtorEq, Int.reduceBEq, Int.reduceBNe, Int.reduceLT, Int.reduceLE, Int.reduceGT, Int.reduceGE, Int.reduceEq, Int.reduceAdd, Int.reduceSub, Int.reduceMul, Nat.reduceMul, Nat.reduceSub, Nat.reduceLeDiff] <;> rfl)
          · refine WS_runB 1000 (by simp only [go_sem, eRun_exit, Nat.reduceAdd, Nat.reduceLT, Nat.reduceEqDiff, reduceIte, reduceCtorEq, Int.reduceBEq, Int.reduceBNe, Int.reduceLT, Int.reduceLE, Int.reduceGT, Int.reduceGE, Int.reduceEq, Int.reduceAdd, Int.reduceSub, Int.reduceMul, Nat.reduceMul, Nat.reduceSub, Nat.reduceLeDiff, f0, f4, hc, h95]; rfl) ?_
            exact no (by simp [isVarC, isNamed, q1, q2, q3, h95]) _ (by simp only [go_sem, eRun_exit, Nat.reduceAdd, Nat.reduceLT, Nat.reduceEqDiff, reduceIte, reduceCtorEq, Int.reduceBEq, Int.reduceBNe, Int.reduceLT, Int.reduceLE, Int.reduceGT, Int.reduceGE, Int.reduceEq, Int.reduceAdd, Int.reduceSub, Int.reduceMul, Nat.reduceMul, Nat.reduceSub, Nat.reduceLeDiff, f0] <;> rfl) (by simp only [go_sem, eRun_exit, Nat.reduceAdd, Nat.reduceLT, Nat.reduceEqDiff, reduceIte, reduceCtorEq, Int.reduceBEq, Int.reduceBNe, Int.reduceLT, Int.reduceLE, Int.reduceGT, Int.reduceGE, Int.reduceEq, Int.reduceAdd, Int.reduceSub, Int.reduceMul, Nat.reduceMul, Nat.reduceSub, Nat.reduceLeDiff, f4] <;> rfl)
  · refine WS_runB 1000 (by simp only [go_sem, eRun_exit, Nat.reduceAdd, Nat.reduceLT, Nat.reduceEqDiff, reduceIte, reduceCtorEq, Int.reduceBEq, Int.reduceBNe, Int.reduceLT, Int.reduceLE, Int.reduceGT, Int.reduceGE, Int.reduceEq, Int.reduceAdd, Int.reduceSub, Int.reduceMul, Nat.reduceMul, Nat.reduceSub, Nat.reduceLeDiff, k_ref8_word_p1, f0, f4, hlt]; rfl) ?_
    refine h _ (by simp only [go_sem, eRun_exit, Nat.reduceAdd, Nat.reduceLT, Nat.reduceEqDiff, reduceIte, reduceCtorEq, Int.reduceBEq, Int.reduceBNe, Int.reduceLT, Int.reduceLE, Int.reduceGT, Int.reduceGE, Int.reduceEq, Int.reduceAdd, Int.reduceSub, Int.reduceMul, Nat.reduceMul, Nat.reduceSub, Nat.reduceLeDiff, f0] <;> rfl) ?_
    have : k = s.length := by omega
    subst this
    rw [hk, List.drop_length]
    exact (by simp only [go_sem, eRun_exit, Nat.reduceAdd, Nat.reduceLT, Nat.reduceEqDiff, reduceIte, reduceCtorEq, Int.reduceBEq, Int.reduceBNe, Int.reduceLT, Int.reduceLE, Int.reduceGT, Int.reduceGE, Int.reduceEq, Int.reduceAdd, Int.reduceSub, Int.reduceMul, Nat.reduceMul, Nat.reduceSub, Nat.reduceLeDiff, f4] <;> rfl)
theorem rl3 (C : Codes tab) {c : Nat} {t : List Nat} {S : List SI} {Q : Fr → AW → Prop} {fr : Fr} {aw : AW} (hs : (c :: t).length ≤ 4611686018427387904) {k0 : Nat}
    (hk0' : k0 ≤ (c :: t).length) (f0 : fr.get 0 = some (.str (c :: t))) (f4 : fr.get 4 = some (.int .i64 (Int.ofNat k0)))
    (h : ∀ f, f.get 0 = some (.str (c :: t)) → f.get 4 = some (.int .i64 (Int.ofNat ((k0 + (((c :: t).drop k0).takeWhile isDigit).length)))) → WS tab S f aw Q) :
    WS tab (.code (.loop k_ref8_word_p3) :: .endB 5 :: S) fr aw Q := by
  refine WS_loop (fun n f w => ∃ k, f.get 0 = some (.str (c :: t)) ∧ f.get 4 = some (.int .i64 (Int.ofNat k)) ∧ k0 + (((c :: t).drop k0).takeWhile isDigit).length = k + (((c :: t).drop k).takeWhile isDigit).length ∧ k ≤ (c :: t).length ∧ n = (c :: t).length - k ∧ w = aw) ?_ ((c :: t).length - k0) ⟨k0, f0, f4, rfl, hk0', rfl, rfl⟩
  rintro n f w ⟨k, f0, f4, hk, hkl, rfl, rfl⟩ ih
  generalize hS : c :: t = s at *
  by_cases hlt : k < s.length
  · obtain ⟨d, hc⟩ : ∃ d, s[k]? = some d := ⟨_, List.getElem?_eq_getElem hlt⟩
    have hd : s.drop k = d :: s.drop (k + 1) := by
      rw [List.drop_eq_getElem_cons hlt]; rw [List.getElem?_eq_getElem hlt] at hc; rw [Option.some.inj hc]
    have hw : IntKind.wrap .i64 (Int.ofNat k + 1) = Int.ofNat (k + 1) := wrap_succ (by omega)
    have yes : isDigit d = true → ∀ f', f'.get 0 = some (.str s) → f'.get 4 = some (.int .i64 (Int.ofNat (k + 1))) → WS tab (.code (.loop k_ref8_word_p3) :: .endB 5 :: S) f' w Q := by
      intro hp f' g0 g4
      refine ih (s.length - (k + 1)) _ _ (by omega) ⟨k + 1, g0, g4, ?_, by omega, rfl, rfl⟩
      rw [hk, hd, List.takeWhile_cons_of_pos hp, List.length_cons]; omega
    have no : isDigit d = false → ∀ f', f'.get 0 = some (.str s) → f'.get 4 = some (.int .i64 (Int.ofNat k)) → WS tab S f' w Q := by
      intro hp f' g0 g4
      refine h f' g0 ?_
      rw [hk, hd, List.takeWhile_cons_of_neg (by simp [hp])]; simpa using g4
    refine WS_run 1000 (by simp only [go_sem, eRun_exit, Nat.reduceAdd, Nat.reduceLT, Nat.reduceEqDiff, reduceIte, reduceCtorEq, Int.reduceBEq, Int.reduceBNe, Int.reduceLT, Int.reduceLE, Int.reduceGT, Int.reduceGE, Int.reduceEq, Int.reduceAdd, Int.reduceSub, Int.reduceMul, Nat.reduceMul, Nat.reduceSub, Nat.reduceLeDiff, k_ref8_word_p3, f0, f4, hlt, hc]; rfl) ?_
    refine WS_call (by simp only [go_sem, eRun_exit, Nat.reduceAdd, Nat.reduceLT, Nat.reduceEqDiff, reduceIte, reduceCtorEq, Int.reduceBEq, Int.reduceBNe, Int.reduceLT, Int.reduceLE, Int.reduceGT, Int.reduceGE, Int.reduceEq, Int.reduceAdd, Int.reduceSub, Int.reduceMul, Nat.reduceMul, Nat.reduceSub, Nat.reduceLeDiff]) (by simp only [go_sem, eRun_exit, Nat.reduceAdd, Nat.reduceLT, Nat.reduceEqDiff, reduceIte, reduceCtorEq, Int.reduceBEq, Int.reduceBNe, Int.reduceLT, Int.reduceLE, Int.reduceGT, Int.reduceGE, Int.reduceEq, Int.reduceAdd, Int.reduceSub, Int.reduceMul, Nat.reduceMul, Nat.reduceSub, Nat.reduceLeDiff]; rfl) ?_
    refine rdigit_ok C ?_
    cases q1 : isDigit d with
    | true =>
      refine WS_run 1000 (by simp only [go_sem, eRun_exit, Nat.reduceAdd, Nat.reduceLT, Nat.reduceEqDiff, reduceIte, reduceCtorEq, Int.reduceBEq, Int.reduceBNe, Int.reduceLT, Int.reduceLE, Int.reduceGT, Int.reduceGE, Int.reduceEq, Int.reduceAdd, Int.reduceSub, Int.reduceMul, Nat.reduceMul, Nat.reduceSub, Nat.reduceLeDiff, f4, hw]; rfl) ?_
      exact yes (by simp [q1]) _ (by simp only [go_sem, eRun_exit, Nat.reduceAdd, Nat.reduceLT, Nat.reduceEqDiff, reduceIte, reduceCtorEq, Int.reduceBEq, Int.reduceBNe, Int.reduceLT, Int.reduceLE, Int.reduceGT, Int.reduceGE, Int.reduceEq, Int.reduceAdd, Int.reduceSub, Int.reduceMul, Nat.reduceMul, Nat.reduceSub, Nat.reduceLeDiff, f0] <;> rfl) (by simp only [go_sem, eRun_exit, Nat.reduceAdd, Nat.reduceLT, Nat.reduceEqDiff, reduceIte, reduceCtorEq, Int.reduceBEq, Int.reduceBNe, Int.reduceLT, Int.reduceLE, Int.reduceGT, Int.reduceGE, Int.reduceEq, Int.reduceAdd, Int.reduceSub, Int.reduceMul, Nat.reduceMul, Nat.reduceSub, Nat.reduceLeDiff] <;> rfl)
    | false =>
      refine WS_runB 1000 (by simp only [go_sem, eRun_exit, Nat.reduceAdd, Nat.reduceLT, Nat.reduceEqDiff, reduceIte, reduceCtorEq, Int.reduceBEq, Int.reduceBNe, Int.reduceLT, Int.reduceLE, Int.reduceGT, Int.reduceGE, Int.reduceEq, Int.reduceAdd, Int.reduceSub, Int.reduceMul, Nat.reduceMul, Nat.reduceSub, Nat.reduceLeDiff]; rfl) ?_
      exact no (by simp [q1]) _ (by simp only [go_sem, eRun_exit, Nat.reduceAdd, Nat.reduceLT, Nat.reduceEqDiff, reduceIte, reduceCtorEq, Int.reduceBEq, Int.reduceBNe, Int.reduceLT, Int.reduceLE, Int.reduceGT, Int.reduceGE, Int.reduceEq, Int.reduceAdd, Int.reduceSub, Int.reduceMul, Nat.reduceMul, Nat.reduceSub, Nat.reduceLeDiff, f0] <;> rfl) (by simp only [go_sem, eRun_exit, Nat.reduceAdd, Nat.reduceLT, Nat.reduceEqDiff, reduceIte, reduceCtorEq, Int.reduceBEq, Int.reduceBNe, Int.reduceLT, Int.reduceLE, Int.reduceGT, Int.reduceGE, Int.reduceEq, Int.reduceAdd, Int.reduceSub, Int.reduceMul, Nat.reduceMul, Nat.reduceSub, Nat.reduceLeDiff, f4] <;> rfl)
  · refine WS_runB 1000 (by simp only [go_sem, eRun_exit, Nat.reduceAdd, Nat.reduceLT, Nat.reduceEqDiff, reduceIte, reduceCtorEq, Int.reduceBEq, Int.reduceBNe, Int.reduceLT, Int.reduceLE, Int.reduceGT, Int.reduceGE, Int.reduceEq, Int.reduceAdd, Int.reduceSub, Int.reduceMul, Nat.reduceMul, Nat.reduceSub, Nat.reduceLeDiff, k_ref8_word_p3, f0, f4, hlt]; rfl) ?_
    refine h _ (by simp only [go_sem, eRun_exit, Nat.reduceAdd, Nat.reduceLT, Nat.reduceEqDiff, reduceIte, reduceCtorEq, Int.reduceBEq, Int.reduceBNe, Int.reduceLT, Int.reduceLE, Int.reduceGT, Int.reduceGE, Int.reduceEq, Int.reduceAdd, Int.reduceSub, Int.reduceMul, Nat.reduceMul, Nat.reduceSub, Nat.reduceLeDiff, f0] <;> rfl) ?_
    have : k = s.length := by omega
    subst this
    rw [hk, List.drop_length]
    exact (by simp only [go_sem, eRun_exit, Nat.reduceAdd, Nat.reduceLT, Nat.reduceEqDiff, reduceIte, reduceCtorEq, Int.reduceBEq, Int.reduceBNe, Int.reduceLT, Int.reduceLE, Int.reduceGT, Int.reduceGE, Int.reduceEq, Int.reduceAdd, Int.reduceSub, Int.reduceMul, Nat.reduceMul, Nat.reduceSub, Nat.reduceLeDiff, f4] <;> rfl)
end Go.Proofs.Ytjidefnbancmfaa

set_option linter.unusedVariables false
set_option linter.unusedSimpArgs false
namespace Go.Proofs.Ytjidefnbancmfaa
open Go.AE Delphi
variable {tab : Tab}
def twos : List (List Nat) := [[58, 45], [33, 61], [60, 61]]
def ones : List (List Nat) := [[40], [41], [44], [46], [33], [61], [60]]
theorem signs_find (p : List Nat → Bool) : signs.find? p = (match twos.find? p with | some g => some g | none => ones.find? p) := by
  show (twos ++ ones).find? p = _
  rw [List.find?_append]
  cases twos.find? p <;> rfl
def isOne (c : Nat) : Bool := decide (c = 40) || (decide (c = 41) || (decide (c = 44) || (decide (c = 46) || (decide (c = 33) || (decide (c = 61) || decide (c = 60))))))
theorem ones_find (c : Nat) (t : List Nat) : ones.find? (fun g => g.isPrefixOf (c :: t)) = if isOne c then some [c] else none := by
  simp only [ones, isOne]
  by_cases h1 : c = 40
  · subst h1; rfl
  by_cases h2 : c = 41
  · subst h2; rfl
  by_cases h3 : c = 44
  · subst h3; rfl
  by_cases h4 : c = 46
  · subst h4; rfl
  by_cases h5 : c = 33
  · subst h5; rfl
  by_cases h6 : c = 61
  · subst h6; rfl
  by_cases h7 : c = 60
  · subst h7; rfl
  have e : ∀ n : Nat, ¬ c = n → (n == c) = false := fun n hn => beq_eq_false_iff_ne.2 (Ne.symm hn)
  simp [List.find?, List.isPrefixOf, h1, h2, h3, h4, h5, h6, h7, e 40 h1, e 41 h2, e 44 h3, e 46 h4, e 33 h5, e 61 h6, e 60 h7]
theorem two_prefix {g s : List Nat} (hg : g.length = 2) : g.isPrefixOf s = (decide (2 ≤ s.length) && eqL (s.take 2) g) := by
  rw [isPrefix_take, hg]
def k48s : ACode := (.seq (.region [⟨some 112, none, .buildSlice 3 [(.str []), (.str []), (.str [])] [(0, 1, (.const (.str [58, 45]))), (1, 1, (.const (.str [33, 61]))), (2, 1, (.const (.str [60, 61])))]⟩,
  ⟨some 5, none, .mov (.tmp 112)⟩])
 (.seq (.seq (.region [⟨some 6, none, .mov (.const (.int .i64 0))⟩])
 (.block 7 (.loop k_ref8_word_p9)))
 (.seq (.seq (.region [⟨some 129, none, .mov (.tmp 0)⟩,
  ⟨some 130, none, .indexStr (.tmp 129) (.const (.int .i64 0))⟩])
 (.block 9 k_ref8_word_p13))
 (.seq (.region [⟨some 2, none, .mov (.const (.int .i64 0))⟩,
  ⟨some 3, none, .mov (.const (.int .i64 0))⟩])
 .ret))))
set_option maxRecDepth 10000 in
theorem rword_ok (C : Codes tab) {c : Nat} {t : List Nat} {aw : AW} {K : V → AW → Prop} (hs : (c :: t).length ≤ 4611686018427387904)
    (h : ∀ kind aw', ((lexWord (c :: t)).2 ≠ 0 → kind = (lexWord (c :: t)).1) → Ext aw.next aw aw' → K (.tuple [.int .i64 (Int.ofNat (lexWord (c :: t)).2), .int .i64 (Int.ofNat kind)]) aw') : WF tab n_ref8_word [.str (c :: t)] aw K := by
  refine WF_of C.c_ref8_word rfl ?_
  have h1l : 1 ≤ (c :: t).length := by simp
  refine WS_run 1000 (by simp only [go_sem, eRun_exit, Nat.reduceAdd, Nat.reduceLT, Nat.reduceEqDiff, reduceIte, reduceCtorEq, Int.reduceBEq, Int.reduceBNe, Int.reduceLT, Int.reduceLE, Int.reduceGT, Int.reduceGE, Int.reduceEq, Int.reduceAdd, Int.reduceSub, Int.reduceMul, Nat.reduceMul, Nat.reduceSub, Nat.reduceLeDiff, k_ref8_word, k_ref8_word_p7]; rfl) ?_
  refine WS_call (by simp only [go_sem, eRun_exit, Nat.reduceAdd, Nat.reduceLT, Nat.reduceEqDiff, reduceIte, reduceCtorEq, Int.reduceBEq, Int.reduceBNe, Int.reduceLT, Int.reduceLE, Int.reduceGT, Int.reduceGE, Int.reduceEq, Int.reduceAdd, Int.reduceSub, Int.reduceMul, Nat.reduceMul, Nat.reduceSub, Nat.reduceLeDiff]) (by simp only [go_sem, eRun_exit, Nat.reduceAdd, Nat.reduceLT, Nat.reduceEqDiff, reduceIte, reduceCtorEq, Int.reduceBEq, Int.reduceBNe, Int.reduceLT, Int.reduceLE, Int.reduceGT, Int.reduceGE, Int.reduceEq, Int.reduceAdd, Int.reduceSub, Int.reduceMul, Nat.reduceMul, Nat.reduceSub, Nat.reduceLeDiff]; rfl) ?_
  refine rsmall_ok C ?_
  cases h1 : isSmall c with
  | true =>
    have hl : lexWord (c :: t) = (1, 1 + (t.takeWhile isNamed).length) := by
      have : isNamed c = true := by simp [isNamed, h1]
      simp only [lexWord, h1, if_true, List.takeWhile_cons_of_pos this, List.length_cons, Nat.add_comm]
    rw [hl] at h
    refine WS_run 1000 (by simp only [go_sem, eRun_exit, Nat.reduceAdd, Nat.reduceLT, Nat.reduceEqDiff, reduceIte, reduceCtorEq, Int.reduceBEq, Int.reduceBNe, Int.reduceLT, Int.reduceLE, Int.reduceGT, Int.reduceGE, Int.reduceEq, Int.reduceAdd, Int.reduceSub, Int.reduceMul, Nat.reduceMul, Nat.reduceSub, Nat.reduceLeDiff]; rfl) ?_
    refine rl0 C hs h1l (by simp only [go_sem, eRun_exit, Nat.reduceAdd, Nat.reduceLT, Nat.reduceEqDiff, reduceIte, reduceCtorEq, Int.reduceBEq, Int.reduceBNe, Int.reduceLT, Int.reduceLE, Int.reduceGT, Int.reduceGE, Int.reduceEq, Int.reduceAdd, Int.reduceSub, Int.reduceMul, Nat.reduceMul, Nat.reduceSub, Nat.reduceLeDiff] <;> rfl) (by simp only [go_sem, eRun_exit, Nat.reduceAdd, Nat.reduceLT, Nat.reduceEqDiff, reduceIte, reduceCtorEq, Int.reduceBEq, Int.reduceBNe, Int.reduceLT, Int.reduceLE, Int.reduceGT, Int.reduceGE, Int.reduceEq, Int.reduceAdd, Int.reduceSub, Int.reduceMul, Nat.reduceMul, Nat.reduceSub, Nat.reduceLeDiff] <;> rfl) ?_
    intro f f0 f4
    simp only [List.drop_succ_cons, List.drop_zero] at f4
    refine WS_run 1000 (by simp only [go_sem, eRun_exit, Nat.reduceAdd, Nat.reduceLT, Nat.reduceEqDiff, reduceIte, reduceCtorEq, Int.reduceBEq, Int.reduceBNe, Int.reduceLT, Int.reduceLE, Int.reduceGT, Int.reduceGE, Int.reduceEq, Int.reduceAdd, Int.reduceSub, Int.reduceMul, Nat.reduceMul, Nat.reduceSub, Nat.reduceLeDiff, f4]; rfl) ?_
    refine WS_ret ⟨_, by simp only [go_sem, eRun_exit, Nat.reduceAdd, Nat.reduceLT, Nat.reduceEqDiff, reduceIte, reduceCtorEq, Int.reduceBEq, Int.reduceBNe, Int.reduceLT, Int.reduceLE, Int.reduceGT, Int.reduceGE, Int.reduceEq, Int.reduceAdd, Int.reduceSub, Int.reduceMul, Nat.reduceMul, Nat.reduceSub, Nat.reduceLeDiff, k_ref8_word]; rfl, ?_⟩
    exact h 1 aw (fun _ => rfl) (Ext.refl aw)
  | false =>
    refine WS_run 1000 (by simp only [go_sem, eRun_exit, Nat.reduceAdd, Nat.reduceLT, Nat.reduceEqDiff, reduceIte, reduceCtorEq, Int.reduceBEq, Int.reduceBNe, Int.reduceLT, Int.reduceLE, Int.reduceGT, Int.reduceGE, Int.reduceEq, Int.reduceAdd, Int.reduceSub, Int.reduceMul, Nat.reduceMul, Nat.reduceSub, Nat.reduceLeDiff, k_ref8_word_p6]; rfl) ?_
    refine WS_call (by simp only [go_sem, eRun_exit, Nat.reduceAdd, Nat.reduceLT, Nat.reduceEqDiff, reduceIte, reduceCtorEq, Int.reduceBEq, Int.reduceBNe, Int.reduceLT, Int.reduceLE, Int.reduceGT, Int.reduceGE, Int.reduceEq, Int.reduceAdd, Int.reduceSub, Int.reduceMul, Nat.reduceMul, Nat.reduceSub, Nat.reduceLeDiff]) (by simp only [go_sem, eRun_exit, Nat.reduceAdd, Nat.reduceLT, Nat.reduceEqDiff, reduceIte, reduceCtorEq, Int.reduceBEq, Int.reduceBNe, Int.reduceLT, Int.reduceLE, Int.reduceGT, Int.reduceGE, Int.reduceEq, Int.reduceAdd, Int.reduceSub, Int.reduceMul, Nat.reduceMul, Nat.reduceSub, Nat.reduceLeDiff]; rfl) ?_
    refine rgreat_ok C ?_
    cases h2 : isGreat c with
    | true =>
      have hl : lexWord (c :: t) = (2, 1 + (t.takeWhile isVarC).length) := by
        have : isVarC c = true := by simp [isVarC, h2]
        simp only [lexWord, h1, h2, if_true, Bool.false_eq_true, if_false, List.takeWhile_cons_of_pos this, List.length_cons, Nat.add_comm]
      rw [hl] at h
      refine WS_run 1000 (by simp only [go_sem, eRun_exit, Nat.reduceAdd, Nat.reduceLT, Nat.reduceEqDiff, reduceIte, reduceCtorEq, Int.reduceBEq, Int.reduceBNe, Int.reduceLT, Int.reduceLE, Int.reduceGT, Int.reduceGE, Int.reduceEq, Int.reduceAdd, Int.reduceSub, Int.reduceMul, Nat.reduceMul, Nat.reduceSub, Nat.reduceLeDiff]; rfl) ?_
      refine rl1 C hs h1l (by simp only [go_sem, eRun_exit, Nat.reduceAdd, Nat.reduceLT, Nat.reduceEqDiff, reduceIte, reduceCtorEq, Int.reduceBEq, Int.reduceBNe, Int.reduceLT, Int.reduceLE, Int.reduceGT, Int.reduceGE, Int.reduceEq, Int.reduceAdd, Int.reduceSub, Int.reduceMul, Nat.reduceMul, Nat.reduceSub, Nat.reduceLeDiff] <;> rfl) (by simp only [go_sem, eRun_exit, Nat.reduceAdd, Nat.reduceLT, Nat.reduceEqDiff, reduceIte, reduceCtorEq, Int.reduceBEq, Int.reduceBNe, Int.reduceLT, Int.reduceLE, Int.reduceGT, Int.reduceGE, Int.reduceEq, Int.reduceAdd, Int.reduceSub, Int.reduceMul, Nat.reduceMul, Nat.reduceSub, Nat.reduceLeDiff] <;> rfl) ?_
      intro f f0 f4
      simp only [List.drop_succ_cons, List.drop_zero] at f4
      refine WS_run 1000 (by simp only [go_sem, eRun_exit, Nat.reduceAdd, Nat.reduceLT, Nat.reduceEqDiff, reduceIte, reduceCtorEq, Int.reduceBEq, Int.reduceBNe, Int.reduceLT, Int.reduceLE, Int.reduceGT, Int.reduceGE, Int.reduceEq, Int.reduceAdd, Int.reduceSub, Int.reduceMul, Nat.reduceMul, Nat.reduceSub, Nat.reduceLeDiff, f4]; rfl) ?_
      refine WS_ret ⟨_, by simp only [go_sem, eRun_exit, Nat.reduceAdd, Nat.reduceLT, Nat.reduceEqDiff, reduceIte, reduceCtorEq, Int.reduceBEq, Int.reduceBNe, Int.reduceLT, Int.reduceLE, Int.reduceGT, Int.reduceGE, Int.reduceEq, Int.reduceAdd, Int.reduceSub, Int.reduceMul, Nat.reduceMul, Nat.reduceSub, Nat.reduceLeDiff, k_ref8_word]; rfl, ?_⟩
      exact h 2 aw (fun _ => rfl) (Ext.refl aw)
    | false =>
      refine WS_run 1000 (by simp only [go_sem, eRun_exit, Nat.reduceAdd, Nat.reduceLT, Nat.reduceEqDiff, reduceIte, reduceCtorEq, Int.reduceBEq, Int.reduceBNe, Int.reduceLT, Int.reduceLE, Int.reduceGT, Int.reduceGE, Int.reduceEq, Int.reduceAdd, Int.reduceSub, Int.reduceMul, Nat.reduceMul, Nat.reduceSub, Nat.reduceLeDiff, k_ref8_word_p5]; rfl) ?_
      refine WS_call (by simp only [go_sem, eRun_exit, Nat.reduceAdd, Nat.reduceLT, Nat.reduceEqDiff, reduceIte, reduceCtorEq, Int.reduceBEq, Int.reduceBNe, Int.reduceLT, Int.reduceLE, Int.reduceGT, Int.reduceGE, Int.reduceEq, Int.reduceAdd, Int.reduceSub, Int.reduceMul, Nat.reduceMul, Nat.reduceSub, Nat.reduceLeDiff]) (by simp only [go_sem, eRun_exit, Nat.reduceAdd, Nat.reduceLT, Nat.reduceEqDiff, reduceIte, reduceCtorEq, Int.reduceBEq, Int.reduceBNe, Int.reduceLT, Int.reduceLE, Int.reduceGT, Int.reduceGE, Int.reduceEq, Int.reduceAdd, Int.reduceSub, Int.reduceMul, Nat.reduceMul, Nat.reduceSub, Nat.reduceLeDiff]; rfl) ?_
      refine rdigit_ok C ?_
      cases h3 : isDigit c with
      | true =>
        have h45 : ¬ c = 45 := by intro he; subst he; revert h3; decide
        have hd : (isDigit c || decide (c = 45)) = true := by simp [h3]
        have hl : lexWord (c :: t) = (3, if c = 48 then 1 else 1 + (t.takeWhile isDigit).length) := by
          simp only [lexWord, h1, h2, hd, if_true, Bool.false_eq_true, if_false, Prod.mk.injEq, true_and]
          unfold numberLen
          simp only [List.head?_cons, Option.some.injEq, h45, if_false, List.drop_zero, List.takeWhile_cons_of_pos h3, List.length_cons, List.getElem?_cons_zero]
          rw [if_neg (by omega), if_neg (by omega)]
          split
          · rfl
          · omega
        rw [hl] at h
        by_cases h48 : c = 48
        · refine WS_run 1000 (by simp only [go_sem, eRun_exit, Nat.reduceAdd, Nat.reduceLT, Nat.reduceEqDiff, reduceIte, reduceCtorEq, Int.reduceBEq, Int.reduceBNe, Int.reduceLT, Int.reduceLE, Int.reduceGT, Int.reduceGE, Int.reduceEq, Int.reduceAdd, Int.reduceSub, Int.reduceMul, Nat.reduceMul, Nat.reduceSub, Nat.reduceLeDiff, k_ref8_word_p4, h45, h48]; rfl) ?_
          refine WS_ret ⟨_, by simp only [go_sem, eRun_exit, Nat.reduceAdd, Nat.reduceLT, Nat.reduceEqDiff, reduceIte, reduceCtorEq, Int.reduceBEq, Int.reduceBNe, Int.reduceLT, Int.reduceLE, Int.reduceGT, Int.reduceGE, Int.reduceEq, Int.reduceAdd, Int.reduceSub, Int.reduceMul, Nat.reduceMul, Nat.reduceSub, Nat.reduceLeDiff, k_ref8_word]; rfl, ?_⟩
          rw [if_pos h48] at h
          exact h 3 aw (fun _ => rfl) (Ext.refl aw)
        · refine WS_run 1000 (by simp only [go_sem, eRun_exit, Nat.reduceAdd, Nat.reduceLT, Nat.reduceEqDiff, reduceIte, reduceCtorEq, Int.reduceBEq, Int.reduceBNe, Int.reduceLT, Int.reduceLE, Int.reduceGT, Int.reduceGE, Int.reduceEq, Int.reduceAdd, Int.reduceSub, Int.reduceMul, Nat.reduceMul, Nat.reduceSub, Nat.reduceLeDiff, k_ref8_word_p4, h45, h48]; rfl) ?_
          refine rl3 C hs h1l (by simp only [go_sem, eRun_exit, Nat.reduceAdd, Nat.reduceLT, Nat.reduceEqDiff, reduceIte, reduceCtorEq, Int.reduceBEq, Int.reduceBNe, Int.reduceLT, Int.reduceLE, Int.reduceGT, Int.reduceGE, Int.reduceEq, Int.reduceAdd, Int.reduceSub, Int.reduceMul, Nat.reduceMul, Nat.reduceSub, Nat.reduceLeDiff] <;> rfl) (by simp only [go_sem, eRun_exit, Nat.reduceAdd, Nat.reduceLT, Nat.reduceEqDiff, reduceIte, reduceCtorEq, Int.reduceBEq, Int.reduceBNe, Int.reduceLT, Int.reduceLE, Int.reduceGT, Int.reduceGE, Int.reduceEq, Int.reduceAdd, Int.reduceSub, Int.reduceMul, Nat.reduceMul, Nat.reduceSub, Nat.reduceLeDiff] <;> rfl) ?_
          intro f f0 f4
          simp only [List.drop_succ_cons, List.drop_zero] at f4
          refine WS_run 1000 (by simp only [go_sem, eRun_exit, Nat.reduceAdd, Nat.reduceLT, Nat.reduceEqDiff, reduceIte, reduceCtorEq, Int.reduceBEq, Int.reduceBNe, Int.reduceLT, Int.reduceLE, Int.reduceGT, Int.reduceGE, Int.reduceEq, Int.reduceAdd, Int.reduceSub, Int.reduceMul, Nat.reduceMul, Nat.reduceSub, Nat.reduceLeDiff, f4]; rfl) ?_
          refine WS_ret ⟨_, by simp only [go_sem, eRun_exit, Nat.reduceAdd, Nat.reduceLT, Nat.reduceEqDiff, reduceIte, reduceCtorEq, Int.reduceBEq, Int.reduceBNe, Int.reduceLT, Int.reduceLE, Int.reduceGT, Int.reduceGE, Int.reduceEq, Int.reduceAdd, Int.reduceSub, Int.reduceMul, Nat.reduceMul, Nat.reduceSub, Nat.reduceLeDiff, k_ref8_word]; rfl, ?_⟩
          rw [if_neg h48] at h
          exact h 3 aw (fun _ => rfl) (Ext.refl aw)
      | false =>
        -- no number: signs
        have hsg : ∀ fr : Fr, fr.get 0 = some (.str (c :: t)) → ((lexWord (c :: t)).2 = match signs.find? (fun g => g.isPrefixOf (c :: t)) with | some g => g.length | none => 0) → ((lexWord (c :: t)).2 ≠ 0 → (lexWord (c :: t)).1 = 4) →
            WS tab [.code k48s] fr aw (fun fr' aw' => ∃ vs, resV fr' aw' k_ref8_word.results = some vs ∧ K (resOne vs) aw') := by
          intro fr f0 hn hk
          rw [signs_find, ones_find] at hn
          refine WS_run 1000 (by simp only [go_sem, eRun_exit, Nat.reduceAdd, Nat.reduceLT, Nat.reduceEqDiff, reduceIte, reduceCtorEq, Int.reduceBEq, Int.reduceBNe, Int.reduceLT, Int.reduceLE, Int.reduceGT, Int.reduceGE, Int.reduceEq, Int.reduceAdd, Int.reduceSub, Int.reduceMul, Nat.reduceMul, Nat.reduceSub, Nat.reduceLeDiff, k48s, evParts, fillV, V.cells, List.length_cons, List.length_nil, over]; rfl) ?_
          have hload : ∀ (i : Nat) (g : List Nat), twos[i]? = some g → (aw.fresh [.str [58, 45], .str [33, 61], .str [60, 61]]).load aw.next (0 + i * 1) 1 = some [.str g] := by
            intro i g hg
            have hi : i < 3 := (List.getElem?_eq_some_iff.1 hg).1
            simp only [AW.load, AW.fresh, AW.new, T.get_putk, if_true, AW.alive, Nat.zero_add, Nat.mul_one]
            match i, hi with
            | 0, _ | 1, _ | 2, _ => simp [twos] at hg; subst hg; rfl
          have hext : Ext aw.next aw (aw.fresh [.str [58, 45], .str [33, 61], .str [60, 61]]) := Ext.new (Nat.le_refl _) _
          generalize aw.fresh [.str [58, 45], .str [33, 61], .str [60, 61]] = aw1 at hload hext
          refine WS_loop (fun n f w => ∃ i, f.get 0 = some (.str (c :: t)) ∧ f.get 5 = some (.slice aw.next 0 3 (.known 3)) ∧ f.get 6 = some (.int .i64 (Int.ofNat i)) ∧ twos.find? (fun g => g.isPrefixOf (c :: t)) = (twos.drop i).find? (fun g => g.isPrefixOf (c :: t)) ∧ i ≤ 3 ∧ n = 3 - i ∧ w = aw1) ?_ 3 ⟨0, (by simp only [go_sem, eRun_exit, Nat.reduceAdd, Nat.reduceLT, Nat.reduceEqDiff, reduceIte, reduceCtorEq, Int.reduceBEq, Int.reduceBNe, Int.reduceLT, Int.reduceLE, Int.reduceGT, Int.reduceGE, Int.reduceEq, Int.reduceAdd, Int.reduceSub, Int.reduceMul, Nat.reduceMul, Nat.reduceSub, Nat.reduceLeDiff, f0] <;> rfl), (by simp only [go_sem, eRun_exit, Nat.reduceAdd, Nat.reduceLT, Nat.reduceEqDiff, reduceIte, reduceCtorEq, Int.reduceBEq, Int.reduceBNe, Int.reduceLT, Int.reduceLE, Int.reduceGT, Int.reduceGE, Int.reduceEq, Int.reduceAdd, Int.reduceSub, Int.reduceMul, Nat.reduceMul, Nat.reduceSub, Nat.reduceLeDiff] <;> rfl), (by simp only [go_sem, eRun_exit, Nat.reduceAdd, Nat.reduceLT, Nat.reduceEqDiff, reduceIte, reduceCtorEq, Int.reduceBEq, Int.reduceBNe, Int.reduceLT, Int.reduceLE, Int.reduceGT, Int.reduceGE, Int.reduceEq, Int.reduceAdd, Int.reduceSub, Int.reduceMul, Nat.reduceMul, Nat.reduceSub, Nat.reduceLeDiff] <;> rfl), rfl, by omega, rfl, rfl⟩
          rintro n f w ⟨i, f0, f5, f6, hf, hi, rfl, rfl⟩ ih
          by_cases hlt : i < 3
          · obtain ⟨g, hg⟩ : ∃ g, twos[i]? = some g := ⟨_, List.getElem?_eq_getElem (by simpa [twos] using hlt)⟩
            have hd : twos.drop i = g :: twos.drop (i + 1) := by
              have hl : i < twos.length := by simpa [twos] using hlt
              rw [List.drop_eq_getElem_cons hl]
              rw [List.getElem?_eq_getElem hl] at hg
              rw [Option.some.inj hg]
            have hg2 : g.length = 2 := by
              have hm := List.mem_of_getElem? hg
              simp only [twos, List.mem_cons, List.not_mem_nil, or_false] at hm
              rcases hm with rfl | rfl | rfl <;> rfl
            have hld := hload i g hg
            have hw : IntKind.wrap .i64 (Int.ofNat i + 1) = Int.ofNat (i + 1) := wrap_succ (by omega)
            have next : g.isPrefixOf (c :: t) = false → ∀ f', f'.get 0 = some (.str (c :: t)) → f'.get 5 = some (.slice aw.next 0 3 (.known 3)) → f'.get 6 = some (.int .i64 (Int.ofNat (i + 1))) → WS tab _ f' w _ := fun hp f' g0 g5 g6 =>
              ih (3 - (i + 1)) f' w (by omega) ⟨i + 1, g0, g5, g6, by rw [hf, hd, List.find?_cons_of_neg (by simp [hp])], by omega, rfl, rfl⟩
            by_cases hl2 : 2 ≤ (c :: t).length
            · have hz : 0 ≤ 2 := by omega
              have hp := two_prefix (g := g) (s := c :: t) hg2
              rw [decide_eq_true hl2, Bool.true_and] at hp
              cases he : eqL ((c :: t).take 2) g with
              | true =>
                rw [he] at hp
                refine WS_run 1000 (by simp only [go_sem, eRun_exit, Nat.reduceAdd, Nat.reduceLT, Nat.reduceEqDiff, reduceIte, reduceCtorEq, Int.reduceBEq, Int.reduceBNe, Int.reduceLT, Int.reduceLE, Int.reduceGT, Int.reduceGE, Int.reduceEq, Int.reduceAdd, Int.reduceSub, Int.reduceMul, Nat.reduceMul, Nat.reduceSub, Nat.reduceLeDiff, k_ref8_word_p9, k_ref8_word_p8, f0, f5, f6, hlt, hl2, hz, hld, List.drop_zero, Nat.sub_zero, strS, he]; rfl) ?_
                refine WS_ret ⟨_, by simp only [go_sem, eRun_exit, Nat.reduceAdd, Nat.reduceLT, Nat.reduceEqDiff, reduceIte, reduceCtorEq, Int.reduceBEq, Int.reduceBNe, Int.reduceLT, Int.reduceLE, Int.reduceGT, Int.reduceGE, Int.reduceEq, Int.reduceAdd, Int.reduceSub, Int.reduceMul, Nat.reduceMul, Nat.reduceSub, Nat.reduceLeDiff, k_ref8_word]; rfl, ?_⟩
                rw [hf, hd, List.find?_cons_of_pos (by simpa using hp)] at hn
                simp only [hg2] at hn
                have := h 4 w (fun hne => (hk hne).symm) hext
                rw [hn] at this
                exact this
              | false =>
                rw [he] at hp
                refine WS_run 1000 (by simp only [go_sem, eRun_exit, Nat.reduceAdd, Nat.reduceLT, Nat.reduceEqDiff, reduceIte, reduceCtorEq, Int.reduceBEq, Int.reduceBNe, Int.reduceLT, Int.reduceLE, Int.reduceGT, Int.reduceGE, Int.reduceEq, Int.reduceAdd, Int.reduceSub, Int.reduceMul, Nat.reduceMul, Nat.reduceSub, Nat.reduceLeDiff, k_ref8_word_p9, k_ref8_word_p8, f0, f5, f6, hlt, hl2, hz, hld, List.drop_zero, Nat.sub_zero, strS, he, hw]; rfl) ?_
                exact next hp _ (by simp only [go_sem, eRun_exit, Nat.reduceAdd, Nat.reduceLT, Nat.reduceEqDiff, reduceIte, reduceCtorEq, Int.reduceBEq, Int.reduceBNe, Int.reduceLT, Int.reduceLE, Int.reduceGT, Int.reduceGE, Int.reduceEq, Int.reduceAdd, Int.reduceSub, Int.reduceMul, Nat.reduceMul, Nat.reduceSub, Nat.reduceLeDiff, f0] <;> rfl) (by simp only [go_sem, eRun_exit, Nat.reduceAdd, Nat.reduceLT, Nat.reduceEqDiff, reduceIte, reduceCtorEq, Int.reduceBEq, Int.reduceBNe, Int.reduceLT, Int.reduceLE, Int.reduceGT, Int.reduceGE, Int.reduceEq, Int.reduceAdd, Int.reduceSub, Int.reduceMul, Nat.reduceMul, Nat.reduceSub, Nat.reduceLeDiff, f5] <;> rfl) (by simp only [go_sem, eRun_exit, Nat.reduceAdd, Nat.reduceLT, Nat.reduceEqDiff, reduceIte, reduceCtorEq, Int.reduceBEq, Int.reduceBNe, Int.reduceLT, Int.reduceLE, Int.reduceGT, Int.reduceGE, Int.reduceEq, Int.reduceAdd, Int.reduceSub, Int.reduceMul, Nat.reduceMul, Nat.reduceSub, Nat.reduceLeDiff] <;> rfl)
            · have hp : g.isPrefixOf (c :: t) = false := by rw [two_prefix hg2, decide_eq_false hl2]; rfl
              refine WS_run 1000 (by simp only [go_sem, eRun_exit, Nat.reduceAdd, Nat.reduceLT, Nat.reduceEqDiff, reduceIte, reduceCtorEq, Int.reduceBEq, Int.reduceBNe, Int.reduceLT, Int.reduceLE, Int.reduceGT, Int.reduceGE, Int.reduceEq, Int.reduceAdd, Int.reduceSub, Int.reduceMul, Nat.reduceMul, Nat.reduceSub, Nat.reduceLeDiff, k_ref8_word_p9, k_ref8_word_p8, f0, f5, f6, hlt, hl2, hw]; rfl) ?_
              exact next hp _ (by simp only [go_sem, eRun_exit, Nat.reduceAdd, Nat.reduceLT, Nat.reduceEqDiff, reduceIte, reduceCtorEq, Int.reduceBEq, Int.reduceBNe, Int.reduceLT, Int.reduceLE, Int.reduceGT, Int.reduceGE, Int.reduceEq, Int.reduceAdd, Int.reduceSub, Int.reduceMul, Nat.reduceMul, Nat.reduceSub, Nat.reduceLeDiff, f0] <;> rfl) (by simp only [go_sem, eRun_exit, Nat.reduceAdd, Nat.reduceLT, Nat.reduceEqDiff, reduceIte, reduceCtorEq, Int.reduceBEq, Int.reduceBNe, Int.reduceLT, Int.reduceLE, Int.reduceGT, Int.reduceGE, Int.reduceEq, Int.reduceAdd, Int.reduceSub, Int.reduceMul, Nat.reduceMul, Nat.reduceSub, Nat.reduceLeDiff, f5] <;> rfl) (by simp only [go_sem, eRun_exit, Nat.reduceAdd, Nat.reduceLT, Nat.reduceEqDiff, reduceIte, reduceCtorEq, Int.reduceBEq, Int.reduceBNe, Int.reduceLT, Int.reduceLE, Int.reduceGT, Int.reduceGE, Int.reduceEq, Int.reduceAdd, Int.reduceSub, Int.reduceMul, Nat.reduceMul, Nat.reduceSub, Nat.reduceLeDiff] <;> rfl)
          · have : i = 3 := by omega
            subst this
            have hno : twos.find? (fun g => g.isPrefixOf (c :: t)) = none := by rw [hf]; rfl
            rw [hno] at hn
            simp only at hn
            refine WS_runB 1000 (by simp only [go_sem, eRun_exit, Nat.reduceAdd, Nat.reduceLT, Nat.reduceEqDiff, reduceIte, reduceCtorEq, Int.reduceBEq, Int.reduceBNe, Int.reduceLT, Int.reduceLE, Int.reduceGT, Int.reduceGE, Int.reduceEq, Int.reduceAdd, Int.reduceSub, Int.reduceMul, Nat.reduceMul, Nat.reduceSub, Nat.reduceLeDiff, k_ref8_word_p9, f0, f6, hlt]; rfl) ?_
            have yes : isOne c = true → K (.tuple [.int .i64 1, .int .i64 4]) w := by
              intro ho
              rw [if_pos ho] at hn
              simp only [List.length_cons, List.length_nil] at hn
              have := h 4 w (fun hne => (hk hne).symm) hext
              rw [hn] at this
              exact this
            have no : isOne c = false → K (.tuple [.int .i64 0, .int .i64 0]) w := by
              intro ho
              rw [ho] at hn
              simp only [Bool.false_eq_true, if_false] at hn
              have := h 0 w (fun hne => absurd hn hne) hext
              rw [hn] at this
              exact this
            unfold isOne at yes no
            by_cases c40 : c = 40
            · refine WS_run 1000 (by simp only [go_sem, eRun_exit, Nat.reduceAdd, Nat.reduceLT, Nat.reduceEqDiff, reduceIte, reduceCtorEq, Int.reduceBEq, Int.reduceBNe, Int.reduceLT, Int.reduceLE, Int.reduceGT, Int.reduceGE, Int.reduceEq, Int.reduceAdd, Int.reduceSub, Int.reduceMul, Nat.reduceMul, Nat.reduceSub, Nat.reduceLeDiff, k_ref8_word_p13, k_ref8_word_p12, k_ref8_word_p11, k_ref8_word_p10, f0, c40]; rfl) ?_
              refine WS_ret ⟨_, by simp only [go_sem, eRun_exit, Nat.reduceAdd, Nat.reduceLT, Nat.reduceEqDiff, reduceIte, reduceCtorEq, Int.reduceBEq, Int.reduceBNe, Int.reduceLT, Int.reduceLE, Int.reduceGT, Int.reduceGE, Int.reduceEq, Int.reduceAdd, Int.reduceSub, Int.reduceMul, Nat.reduceMul, Nat.reduceSub, Nat.reduceLeDiff, k_ref8_word]; rfl, ?_⟩
              exact yes (by simp [c40])
            by_cases c41 : c = 41
            · refine WS_run 1000 (by simp only [go_sem, eRun_exit, Nat.reduceAdd, Nat.reduceLT, Nat.reduceEqDiff, reduceIte, reduceCtorEq, Int.reduceBEq, Int.reduceBNe, Int.reduceLT, Int.reduceLE, Int.reduceGT, Int.reduceGE, Int.reduceEq, Int.reduceAdd, Int.reduceSub, Int.reduceMul, Nat.reduceMul, Nat.reduceSub, Nat.reduceLeDiff, k_ref8_word_p13, k_ref8_word_p12, k_ref8_word_p11, k_ref8_word_p10, f0, c40, c41]; rfl) ?_
              refine WS_ret ⟨_, by simp only [go_sem, eRun_exit, Nat.reduceAdd, Nat.reduceLT, Nat.reduceEqDiff, reduceIte, reduceCtorEq, Int.reduceBEq, Int.reduceBNe, Int.reduceLT, Int.reduceLE, Int.reduceGT, Int.reduceGE, Int.reduceEq, Int.reduceAdd, Int.reduceSub, Int.reduceMul, Nat.reduceMul, Nat.reduceSub, Nat.reduceLeDiff, k_ref8_word]; rfl, ?_⟩
              exact yes (by simp [c41])
            by_cases c44 : c = 44
            · refine WS_run 1000 (by simp only [go_sem, eRun_exit, Nat.reduceAdd, Nat.reduceLT, Nat.reduceEqDiff, reduceIte, reduceCtorEq, Int.reduceBEq, Int.reduceBNe, Int.reduceLT, Int.reduceLE, Int.reduceGT, Int.reduceGE, Int.reduceEq, Int.reduceAdd, Int.reduceSub, Int.reduceMul, Nat.reduceMul, Nat.reduceSub, Nat.reduceLeDiff, k_ref8_word_p13, k_ref8_word_p12, k_ref8_word_p11, k_ref8_word_p10, f0, c40, c41, c44]; rfl) ?_
              refine WS_ret ⟨_, by simp only [go_sem, eRun_exit, Nat.reduceAdd, Nat.reduceLT, Nat.reduceEqDiff, reduceIte, reduceCtorEq, Int.reduceBEq, Int.reduceBNe, Int.reduceLT, Int.reduceLE, Int.reduceGT, Int.reduceGE, Int.reduceEq, Int.reduceAdd, Int.reduceSub, Int.reduceMul, Nat.reduceMul, Nat.reduceSub, Nat.reduceLeDiff, k_ref8_word]; rfl, ?_⟩
              exact yes (by simp [c44])
            by_cases c46 : c = 46
            · refine WS_run 1000 (by simp only [go_sem, eRun_exit, Nat.reduceAdd, Nat.reduceLT, Nat.reduceEqDiff, reduceIte, reduceCtorEq, Int.reduceBEq, Int.reduceBNe, Int.reduceLT, Int.reduceLE, Int.reduceGT, Int.reduceGE, Int.reduceEq, Int.reduceAdd, Int.reduceSub, Int.reduceMul, Nat.reduceMul, Nat.reduceSub, Nat.reduceLeDiff, k_ref8_word_p13, k_ref8_word_p12, k_ref8_word_p11, k_ref8_word_p10, f0, c40, c41, c44, c46]; rfl) ?_
              refine WS_ret ⟨_, by simp only [go_sem, eRun_exit, Nat.reduceAdd, Nat.reduceLT, Nat.reduceEqDiff, reduceIte, reduceCtorEq, Int.reduceBEq, Int.reduceBNe, Int.reduceLT, Int.reduceLE, Int.reduceGT, Int.reduceGE, Int.reduceEq, Int.reduceAdd, Int.reduceSub, Int.reduceMul, Nat.reduceMul, Nat.reduceSub, Nat.reduceLeDiff, k_ref8_word]; rfl, ?_⟩
              exact yes (by simp [c46])
            by_cases c33 : c = 33
            · refine WS_run 1000 (by simp only [go_sem, eRun_exit, Nat.reduceAdd, Nat.reduceLT, Nat.reduceEqDiff, reduceIte, reduceCtorEq, Int.reduceBEq, Int.reduceBNe, Int.reduceLT, Int.reduceLE, Int.reduceGT, Int.reduceGE, Int.reduceEq, Int.reduceAdd, Int.reduceSub, Int.reduceMul, Nat.reduceMul, Nat.reduceSub, Nat.reduceLeDiff, k_ref8_word_p13, k_ref8_word_p12, k_ref8_word_p11, k_ref8_word_p10, f0, c40, c41, c44, c46, c33]; rfl) ?_
              refine WS_ret ⟨_, by simp only [go_sem, eRun_exit, Nat.reduceAdd, Nat.reduceLT, Nat.reduceEqDiff, reduceIte, reduceCtorEq, Int.reduceBEq, Int.reduceBNe, Int.reduceLT, Int.reduceLE, Int.reduceGT, Int.reduceGE, Int.reduceEq, Int.reduceAdd, Int.reduceSub, Int.reduceMul, Nat.reduceMul, Nat.reduceSub, Nat.reduceLeDiff, k_ref8_word]; rfl, ?_⟩
              exact yes (by simp [c33])
            by_cases c61 : c = 61
            · refine WS_run 1000 (by simp only [go_sem, eRun_exit, Nat.reduceAdd, Nat.reduceLT, Nat.reduceEqDiff, reduceIte, reduceCtorEq, Int.reduceBEq, Int.reduceBNe, Int.reduceLT, Int.reduceLE, Int.reduceGT, Int.reduceGE, Int.reduceEq, Int.reduceAdd, Int.reduceSub, Int.reduceMul, Nat.reduceMul, Nat.reduceSub, Nat.reduceLeDiff, k_ref8_word_p13, k_ref8_word_p12, k_ref8_word_p11, k_ref8_word_p10, f0, c40, c41, c44, c46, c33, c61]; rfl) ?_
              refine WS_ret ⟨_, by simp only [go_sem, eRun_exit, Nat.reduceAdd, Nat.reduceLT, Nat.reduceEqDiff, reduceIte, reduceCtorEq, Int.reduceBEq, Int.reduceBNe, Int.reduceLT, Int.reduceLE, Int.reduceGT, Int.reduceGE, Int.reduceEq, Int.reduceAdd, Int.reduceSub, Int.reduceMul, Nat.reduceMul, Nat.reduceSub, Nat.reduceLeDiff, k_ref8_word]; rfl, ?_⟩
              exact yes (by simp [c61])
            by_cases c60 : c = 60
            · refine WS_run 1000 (by simp only [go_sem, eRun_exit, Nat.reduceAdd, Nat.reduceLT, Nat.reduceEqDiff, reduceIte, reduceCtorEq, Int.reduceBEq, Int.reduceBNe, Int.reduceLT, Int.reduceLE, Int.reduceGT, Int.reduceGE, Int.reduceEq, Int.reduceAdd, Int.reduceSub, Int.reduceMul, Nat.reduceMul, Nat.reduceSub, Nat.reduceLeDiff, k_ref8_word_p13, k_ref8_word_p12, k_ref8_word_p11, k_ref8_word_p10, f0, c40, c41, c44, c46, c33, c61, c60]; rfl) ?_
              refine WS_ret ⟨_, by simp only [go_sem, eRun_exit, Nat.reduceAdd, Nat.reduceLT, Nat.reduceEqDiff, reduceIte, reduceCtorEq, Int.reduceBEq, Int.reduceBNe, Int.reduceLT, Int.reduceLE, Int.reduceGT, Int.reduceGE, Int.reduceEq, Int.reduceAdd, Int.reduceSub, Int.reduceMul, Nat.reduceMul, Nat.reduceSub, Nat.reduceLeDiff, k_ref8_word]; rfl, ?_⟩
              exact yes (by simp [c60])
            refine WS_run 1000 (by simp only [go_sem, eRun_exit, Nat.reduceAdd, Nat.reduceLT, Nat.reduceEqDiff, reduceIte, reduceCtorEq, Int.reduceBEq, Int.reduceBNe, Int.reduceLT, Int.reduceLE, Int.reduceGT, Int.reduceGE, Int.reduceEq, Int.reduceAdd, Int.reduceSub, Int.reduceMul, Nat.reduceMul, Nat.reduceSub, Nat.reduceLeDiff, k_ref8_word_p13, k_ref8_word_p12, k_ref8_word_p11, k_ref8_word_p10, f0, c40, c41, c44, c46, c33, c61, c60]; rfl) ?_
            refine WS_ret ⟨_, by simp only [go_sem, eRun_exit, Nat.reduceAdd, Nat.reduceLT, Nat.reduceEqDiff, reduceIte, reduceCtorEq, Int.reduceBEq, Int.reduceBNe, Int.reduceLT, Int.reduceLE, Int.reduceGT, Int.reduceGE, Int.reduceEq, Int.reduceAdd, Int.reduceSub, Int.reduceMul, Nat.reduceMul, Nat.reduceSub, Nat.reduceLeDiff, k_ref8_word]; rfl, ?_⟩
            exact no (by simp [c40, c41, c44, c46, c33, c61, c60])
        have hne : (lexWord (c :: t)).2 = 0 → ¬ isDigit c = true → c = 45 → ∀ fr : Fr, fr.get 0 = some (.str (c :: t)) → WS tab [.code k48s] fr aw (fun fr' aw' => ∃ vs, resV fr' aw' k_ref8_word.results = some vs ∧ K (resOne vs) aw') := by
          intro hz _ he fr f0
          refine hsg fr f0 ?_ (fun hn => absurd hz hn)
          rw [hz]; subst he; rfl
        by_cases h45 : c = 45
        · have hl : lexWord (c :: t) = (3, numberLen (c :: t)) := by
            subst h45; rfl
          have e45 : ¬ isDigit c = true := by rw [h3]; simp
          cases t with
          | nil =>
            have hnl : numberLen [c] = 0 := by subst h45; rfl
            refine WS_runB 20 (by simp only [go_sem, eRun_exit, Nat.reduceAdd, Nat.reduceLT, Nat.reduceEqDiff, reduceIte, reduceCtorEq, Int.reduceBEq, Int.reduceBNe, Int.reduceLT, Int.reduceLE, Int.reduceGT, Int.reduceGE, Int.reduceEq, Int.reduceAdd, Int.reduceSub, Int.reduceMul, Nat.reduceMul, Nat.reduceSub, Nat.reduceLeDiff, h45, List.length_cons, List.length_nil]; rfl) ?_
            refine hne (by rw [hl]; exact hnl) e45 h45 _ (by simp only [go_sem, eRun_exit, Nat.reduceAdd, Nat.reduceLT, Nat.reduceEqDiff, reduceIte, reduceCtorEq, Int.reduceBEq, Int.reduceBNe, Int.reduceLT, Int.reduceLE, Int.reduceGT, Int.reduceGE, Int.reduceEq, Int.reduceAdd, Int.reduceSub, Int.reduceMul, Nat.reduceMul, Nat.reduceSub, Nat.reduceLeDiff, h45] <;> rfl)
          | cons d u =>
            have hlen : 1 < (45 :: d :: u).length := by simp
            have hh : (c :: d :: u).head? = some 45 := by rw [h45]; rfl
            refine WS_run 1000 (by simp only [go_sem, eRun_exit, Nat.reduceAdd, Nat.reduceLT, Nat.reduceEqDiff, reduceIte, reduceCtorEq, Int.reduceBEq, Int.reduceBNe, Int.reduceLT, Int.reduceLE, Int.reduceGT, Int.reduceGE, Int.reduceEq, Int.reduceAdd, Int.reduceSub, Int.reduceMul, Nat.reduceMul, Nat.reduceSub, Nat.reduceLeDiff, h45, hlen]; rfl) ?_
            refine WS_call (by simp only [go_sem, eRun_exit, Nat.reduceAdd, Nat.reduceLT, Nat.reduceEqDiff, reduceIte, reduceCtorEq, Int.reduceBEq, Int.reduceBNe, Int.reduceLT, Int.reduceLE, Int.reduceGT, Int.reduceGE, Int.reduceEq, Int.reduceAdd, Int.reduceSub, Int.reduceMul, Nat.reduceMul, Nat.reduceSub, Nat.reduceLeDiff]) (by simp only [go_sem, eRun_exit, Nat.reduceAdd, Nat.reduceLT, Nat.reduceEqDiff, reduceIte, reduceCtorEq, Int.reduceBEq, Int.reduceBNe, Int.reduceLT, Int.reduceLE, Int.reduceGT, Int.reduceGE, Int.reduceEq, Int.reduceAdd, Int.reduceSub, Int.reduceMul, Nat.reduceMul, Nat.reduceSub, Nat.reduceLeDiff]; rfl) ?_
            refine rdigit_ok C ?_
            cases hd : isDigit d with
            | false =>
              have hnl : numberLen (c :: d :: u) = 0 := by
                subst h45
                have e0 : ((d :: u).takeWhile isDigit) = [] := List.takeWhile_cons_of_neg (by simp [hd])
                simp [numberLen, e0]
              refine WS_runB 7 (by simp only [go_sem, eRun_exit, Nat.reduceAdd, Nat.reduceLT, Nat.reduceEqDiff, reduceIte, reduceCtorEq, Int.reduceBEq, Int.reduceBNe, Int.reduceLT, Int.reduceLE, Int.reduceGT, Int.reduceGE, Int.reduceEq, Int.reduceAdd, Int.reduceSub, Int.reduceMul, Nat.reduceMul, Nat.reduceSub, Nat.reduceLeDiff]; rfl) ?_
              refine hne (by rw [hl]; exact hnl) e45 h45 _ (by simp only [go_sem, eRun_exit, Nat.reduceAdd, Nat.reduceLT, Nat.reduceEqDiff, reduceIte, reduceCtorEq, Int.reduceBEq, Int.reduceBNe, Int.reduceLT, Int.reduceLE, Int.reduceGT, Int.reduceGE, Int.reduceEq, Int.reduceAdd, Int.reduceSub, Int.reduceMul, Nat.reduceMul, Nat.reduceSub, Nat.reduceLeDiff, h45] <;> rfl)
            | true =>
              have hd1 : ((d :: u).takeWhile isDigit).length = 1 + (u.takeWhile isDigit).length := by rw [List.takeWhile_cons_of_pos hd, List.length_cons, Nat.add_comm]
              have hnl : numberLen (c :: d :: u) = if d = 48 then 0 else 1 + (1 + (u.takeWhile isDigit).length) := by
                unfold numberLen
                rw [hh]
                simp only [if_true, List.drop_succ_cons, List.drop_zero, hd1, List.getElem?_cons_succ, List.getElem?_cons_zero, Option.some.injEq, true_and]
                rw [if_neg (by omega)]
                split <;> rfl
              by_cases h48 : d = 48
              · refine WS_run 1000 (by simp only [go_sem, eRun_exit, Nat.reduceAdd, Nat.reduceLT, Nat.reduceEqDiff, reduceIte, reduceCtorEq, Int.reduceBEq, Int.reduceBNe, Int.reduceLT, Int.reduceLE, Int.reduceGT, Int.reduceGE, Int.reduceEq, Int.reduceAdd, Int.reduceSub, Int.reduceMul, Nat.reduceMul, Nat.reduceSub, Nat.reduceLeDiff, k_ref8_word_p4, k_ref8_word_p2, h48, h45]; rfl) ?_
                refine WS_ret ⟨_, by simp only [go_sem, eRun_exit, Nat.reduceAdd, Nat.reduceLT, Nat.reduceEqDiff, reduceIte, reduceCtorEq, Int.reduceBEq, Int.reduceBNe, Int.reduceLT, Int.reduceLE, Int.reduceGT, Int.reduceGE, Int.reduceEq, Int.reduceAdd, Int.reduceSub, Int.reduceMul, Nat.reduceMul, Nat.reduceSub, Nat.reduceLeDiff, k_ref8_word]; rfl, ?_⟩
                rw [if_pos h48] at hnl
                have := h 0 aw (fun hn => absurd (by rw [hl]; exact hnl) hn) (Ext.refl aw)
                rw [hl, hnl] at this
                exact this
              · refine WS_run 1000 (by simp only [go_sem, eRun_exit, Nat.reduceAdd, Nat.reduceLT, Nat.reduceEqDiff, reduceIte, reduceCtorEq, Int.reduceBEq, Int.reduceBNe, Int.reduceLT, Int.reduceLE, Int.reduceGT, Int.reduceGE, Int.reduceEq, Int.reduceAdd, Int.reduceSub, Int.reduceMul, Nat.reduceMul, Nat.reduceSub, Nat.reduceLeDiff, k_ref8_word_p4, k_ref8_word_p2, h48, h45]; rfl) ?_
                refine rl3 (c := 45) (t := d :: u) C (by simpa using hs) (k0 := 2) (by simp) (by simp only [go_sem, eRun_exit, Nat.reduceAdd, Nat.reduceLT, Nat.reduceEqDiff, reduceIte, reduceCtorEq, Int.reduceBEq, Int.reduceBNe, Int.reduceLT, Int.reduceLE, Int.reduceGT, Int.reduceGE, Int.reduceEq, Int.reduceAdd, Int.reduceSub, Int.reduceMul, Nat.reduceMul, Nat.reduceSub, Nat.reduceLeDiff] <;> rfl) (by simp only [go_sem, eRun_exit, Nat.reduceAdd, Nat.reduceLT, Nat.reduceEqDiff, reduceIte, reduceCtorEq, Int.reduceBEq, Int.reduceBNe, Int.reduceLT, Int.reduceLE, Int.reduceGT, Int.reduceGE, Int.reduceEq, Int.reduceAdd, Int.reduceSub, Int.reduceMul, Nat.reduceMul, Nat.reduceSub, Nat.reduceLeDiff] <;> rfl) ?_
                intro f f0 f4
                refine WS_run 1000 (by simp only [go_sem, eRun_exit, Nat.reduceAdd, Nat.reduceLT, Nat.reduceEqDiff, reduceIte, reduceCtorEq, Int.reduceBEq, Int.reduceBNe, Int.reduceLT, Int.reduceLE, Int.reduceGT, Int.reduceGE, Int.reduceEq, Int.reduceAdd, Int.reduceSub, Int.reduceMul, Nat.reduceMul, Nat.reduceSub, Nat.reduceLeDiff, f4]; rfl) ?_
                refine WS_ret ⟨_, by simp only [go_sem, eRun_exit, Nat.reduceAdd, Nat.reduceLT, Nat.reduceEqDiff, reduceIte, reduceCtorEq, Int.reduceBEq, Int.reduceBNe, Int.reduceLT, Int.reduceLE, Int.reduceGT, Int.reduceGE, Int.reduceEq, Int.reduceAdd, Int.reduceSub, Int.reduceMul, Nat.reduceMul, Nat.reduceSub, Nat.reduceLeDiff, k_ref8_word]; rfl, ?_⟩
                rw [if_neg h48] at hnl
                have := h 3 aw (fun _ => by rw [hl]) (Ext.refl aw)
                rw [hl, hnl] at this
                have e : 2 + (List.takeWhile isDigit (List.drop 2 (45 :: d :: u))).length = 1 + (1 + (u.takeWhile isDigit).length) := by simp; omega
                rw [e]
                exact this
        · have hd : (isDigit c || decide (c = 45)) = false := by simp [h3, h45]
          have hl : lexWord (c :: t) = (match signs.find? (fun g => g.isPrefixOf (c :: t)) with
              | some g => (4, g.length)
              | none => (0, 0)) := by
            simp only [lexWord, h1, h2, hd, Bool.false_eq_true, if_false]; rfl
          refine WS_runB 20 (by simp only [go_sem, eRun_exit, Nat.reduceAdd, Nat.reduceLT, Nat.reduceEqDiff, reduceIte, reduceCtorEq, Int.reduceBEq, Int.reduceBNe, Int.reduceLT, Int.reduceLE, Int.reduceGT, Int.reduceGE, Int.reduceEq, Int.reduceAdd, Int.reduceSub, Int.reduceMul, Nat.reduceMul, Nat.reduceSub, Nat.reduceLeDiff, h45]; rfl) ?_
          refine hsg _ (by simp only [go_sem, eRun_exit, Nat.reduceAdd, Nat.reduceLT, Nat.reduceEqDiff, reduceIte, reduceCtorEq, Int.reduceBEq, Int.reduceBNe, Int.reduceLT, Int.reduceLE, Int.reduceGT, Int.reduceGE, Int.reduceEq, Int.reduceAdd, Int.reduceSub, Int.reduceMul, Nat.reduceMul, Nat.reduceSub, Nat.reduceLeDiff] <;> rfl) ?_ ?_
          · rw [hl]; cases signs.find? (fun g => g.isPrefixOf (c :: t)) <;> rfl
          · rw [hl]; cases signs.find? (fun g => g.isPrefixOf (c :: t)) with
            | none => intro hn; exact absurd rfl hn
            | some g => intro _; rfl
end Go.Proofs.Ytjidefnbancmfaa

set_option linter.unusedVariables false
set_option linter.unusedSimpArgs false
namespace Go.Proofs.Ytjidefnbancmfaa
open Go.AE Delphi
variable {tab : Tab}
def ScanI (s : List Nat) (l : List Wd) (ok : Bool) (aw : AW) (n : Nat) (f : Fr) (w : AW) : Prop := ∃ i v done, f.get 0 = some (.str s) ∧ f.get 5 = some (.int .i64 (Int.ofNat i)) ∧ f.get 4 = some v ∧ Own aw.next w v 3 done.length (wdsCells done) ∧ Ext aw.next aw w ∧ i ≤ s.length ∧
    (l, ok) = (done ++ (scan i (s.drop i)).1, (scan i (s.drop i)).2) ∧ done.length ≤ i ∧ n = s.length - i
set_option maxRecDepth 10000 in
set_option maxHeartbeats 1000000 in
theorem rscan_ok (C : Codes tab) {s : List Nat} {aw : AW} {K : V → AW → Prop} (hs : s.length ≤ 1099511627776)
    (h1 : 4000 < s.length → K (.tuple [.nilslice, .int .i64 8]) aw)
    (h2 : s.length ≤ 4000 → ∀ v aw', Own aw.next aw' v 3 (scan 0 s).1.length (wdsCells (scan 0 s).1) → Ext aw.next aw aw' → K (.tuple [v, .int .i64 (if (scan 0 s).2 then 0 else 4)]) aw') : WF tab n_ref8_Scan [.str s] aw K := by
  refine WF_of C.c_ref8_Scan rfl ?_
  obtain ⟨l, ok, hres⟩ : ∃ l ok, scan 0 s = (l, ok) := ⟨_, _, rfl⟩
  rw [hres] at h2
  simp only at h2
  by_cases hl : 4000 < s.length
  · refine WS_run 1000 (by simp only [go_sem, eRun_exit, Nat.reduceAdd, Nat.reduceLT, Nat.reduceEqDiff, reduceIte, reduceCtorEq, Int.reduceBEq, Int.reduceBNe, Int.reduceLT, Int.reduceLE, Int.reduceGT, Int.reduceGE, Int.reduceEq, Int.reduceAdd, Int.reduceSub, Int.reduceMul, Nat.reduceMul, Nat.reduceSub, Nat.reduceLeDiff, k_ref8_Scan, hl]; rfl) ?_
    refine WS_ret ⟨_, by simp only [go_sem, eRun_exit, Nat.reduceAdd, Nat.reduceLT, Nat.reduceEqDiff, reduceIte, reduceCtorEq, Int.reduceBEq, Int.reduceBNe, Int.reduceLT, Int.reduceLE, Int.reduceGT, Int.reduceGE, Int.reduceEq, Int.reduceAdd, Int.reduceSub, Int.reduceMul, Nat.reduceMul, Nat.reduceSub, Nat.reduceLeDiff, k_ref8_Scan]; rfl, ?_⟩
    exact h1 hl
  have h2 := h2 (by omega)
  refine WS_run 1000 (by simp only [go_sem, eRun_exit, Nat.reduceAdd, Nat.reduceLT, Nat.reduceEqDiff, reduceIte, reduceCtorEq, Int.reduceBEq, Int.reduceBNe, Int.reduceLT, Int.reduceLE, Int.reduceGT, Int.reduceGE, Int.reduceEq, Int.reduceAdd, Int.reduceSub, Int.reduceMul, Nat.reduceMul, Nat.reduceSub, Nat.reduceLeDiff, k_ref8_Scan, hl]; rfl) ?_
  refine WS_loop (ScanI s l ok aw) ?_ s.length ⟨0, .nilslice, [], (by simp only [go_sem, eRun_exit, Nat.reduceAdd, Nat.reduceLT, Nat.reduceEqDiff, reduceIte, reduceCtorEq, Int.reduceBEq, Int.reduceBNe, Int.reduceLT, Int.reduceLE, Int.reduceGT, Int.reduceGE, Int.reduceEq, Int.reduceAdd, Int.reduceSub, Int.reduceMul, Nat.reduceMul, Nat.reduceSub, Nat.reduceLeDiff] <;> rfl), (by simp only [go_sem, eRun_exit, Nat.reduceAdd, Nat.reduceLT, Nat.reduceEqDiff, reduceIte, reduceCtorEq, Int.reduceBEq, Int.reduceBNe, Int.reduceLT, Int.reduceLE, Int.reduceGT, Int.reduceGE, Int.reduceEq, Int.reduceAdd, Int.reduceSub, Int.reduceMul, Nat.reduceMul, Nat.reduceSub, Nat.reduceLeDiff] <;> rfl), (by simp only [go_sem, eRun_exit, Nat.reduceAdd, Nat.reduceLT, Nat.reduceEqDiff, reduceIte, reduceCtorEq, Int.reduceBEq, Int.reduceBNe, Int.reduceLT, Int.reduceLE, Int.reduceGT, Int.reduceGE, Int.reduceEq, Int.reduceAdd, Int.reduceSub, Int.reduceMul, Nat.reduceMul, Nat.reduceSub, Nat.reduceLeDiff] <;> rfl), .nil, Ext.refl aw, by omega, by rw [← hres]; simp, by simp, rfl⟩
  rintro n f w ⟨i, v, done, f0, f5, f4, hown, hext, hi, hsc, hdl, rfl⟩ ih
  by_cases hlt : i < s.length
  · obtain ⟨c, hc⟩ : ∃ c, s[i]? = some c := ⟨_, List.getElem?_eq_getElem hlt⟩
    have hd0 : s.drop i = c :: s.drop (i + 1) := by
      rw [List.drop_eq_getElem_cons hlt]; rw [List.getElem?_eq_getElem hlt] at hc; rw [Option.some.inj hc]
    have hw : IntKind.wrap .i64 (Int.ofNat i + 1) = Int.ofNat (i + 1) := wrap_succ (by omega)
    have skip : ∀ (j : Nat) f' , i < j → j ≤ s.length → blk false (s.drop i) = (j - i) + blk false (s.drop j) → f'.get 0 = some (.str s) → f'.get 5 = some (.int .i64 (Int.ofNat j)) → f'.get 4 = some v → ScanI s l ok aw (s.length - j) f' w := by
      intro j f' hij hj hb g0 g5 g4
      refine ⟨j, v, done, g0, g5, g4, hown, hext, hj, ?_, by omega, rfl⟩
      have e : s.drop j = (s.drop i).drop (j - i) := by rw [List.drop_drop]; congr 1; omega
      rw [hsc, scan_skip i (s.drop i) (j - i) (by rw [← e]; exact hb), ← e, show i + (j - i) = j by omega]
    have skip1 : isBlank c = true → ∀ f', f'.get 0 = some (.str s) → f'.get 5 = some (.int .i64 (Int.ofNat (i + 1))) → f'.get 4 = some v → ScanI s l ok aw (s.length - (i + 1)) f' w := fun hb f' g0 g5 g4 =>
      skip (i + 1) f' (by omega) (by omega) (by rw [hd0]; simp only [blk, hb, if_true]; omega) g0 g5 g4
    have rest : True := trivial
    by_cases b32 : c = 32
    · refine WS_run 1000 (by simp only [go_sem, eRun_exit, Nat.reduceAdd, Nat.reduceLT, Nat.reduceEqDiff, reduceIte, reduceCtorEq, Int.reduceBEq, Int.reduceBNe, Int.reduceLT, Int.reduceLE, Int.reduceGT, Int.reduceGE, Int.reduceEq, Int.reduceAdd, Int.reduceSub, Int.reduceMul, Nat.reduceMul, Nat.reduceSub, Nat.reduceLeDiff, k_ref8_Scan_p3, k_ref8_Scan_p2, f0, f5, hlt, hc, hw, b32]; rfl) ?_
      exact ih _ _ _ (by omega) (skip1 (by simp [isBlank, b32]) _ (by simp only [go_sem, eRun_exit, Nat.reduceAdd, Nat.reduceLT, Nat.reduceEqDiff, reduceIte, reduceCtorEq, Int.reduceBEq, Int.reduceBNe, Int.reduceLT, Int.reduceLE, Int.reduceGT, Int.reduceGE, Int.reduceEq, Int.reduceAdd, Int.reduceSub, Int.reduceMul, Nat.reduceMul, Nat.reduceSub, Nat.reduceLeDiff, f0] <;> rfl) (by simp only [go_sem, eRun_exit, Nat.reduceAdd, Nat.reduceLT, Nat.reduceEqDiff, reduceIte, reduceCtorEq, Int.reduceBEq, Int.reduceBNe, Int.reduceLT, Int.reduceLE, Int.reduceGT, Int.reduceGE, Int.reduceEq, Int.reduceAdd, Int.reduceSub, Int.reduceMul, Nat.reduceMul, Nat.reduceSub, Nat.reduceLeDiff] <;> rfl) (by simp only [go_sem, eRun_exit, Nat.reduceAdd, Nat.reduceLT, Nat.reduceEqDiff, reduceIte, reduceCtorEq, Int.reduceBEq, Int.reduceBNe, Int.reduceLT, Int.reduceLE, Int.reduceGT, Int.reduceGE, Int.reduceEq, Int.reduceAdd, Int.reduceSub, Int.reduceMul, Nat.reduceMul, Nat.reduceSub, Nat.reduceLeDiff, f4] <;> rfl))
    by_cases b9 : c = 9
    · refine WS_run 1000 (by simp only [go_sem, eRun_exit, Nat.reduceAdd, Nat.reduceLT, Nat.reduceEqDiff, reduceIte, reduceCtorEq, Int.reduceBEq, Int.reduceBNe, Int.reduceLT, Int.reduceLE, Int.reduceGT, Int.reduceGE, Int.reduceEq, Int.reduceAdd, Int.reduceSub, Int.reduceMul, Nat.reduceMul, Nat.reduceSub, Nat.reduceLeDiff, k_ref8_Scan_p3, k_ref8_Scan_p2, f0, f5, hlt, hc, hw, b32, b9]; rfl) ?_
      exact ih _ _ _ (by omega) (skip1 (by simp [isBlank, b32, b9]) _ (by simp only [go_sem, eRun_exit, Nat.reduceAdd, Nat.reduceLT, Nat.reduceEqDiff, reduceIte, reduceCtorEq, Int.reduceBEq, Int.reduceBNe, Int.reduceLT, Int.reduceLE, Int.reduceGT, Int.reduceGE, Int.reduceEq, Int.reduceAdd, Int.reduceSub, Int.reduceMul, Nat.reduceMul, Nat.reduceSub, Nat.reduceLeDiff, f0] <;> rfl) (by simp only [go_sem, eRun_exit, Nat.reduceAdd, Nat.reduceLT, Nat.reduceEqDiff, reduceIte, reduceCtorEq, Int.reduceBEq, Int.reduceBNe, Int.reduceLT, Int.reduceLE, Int.reduceGT, Int.reduceGE, Int.reduceEq, Int.reduceAdd, Int.reduceSub, Int.reduceMul, Nat.reduceMul, Nat.reduceSub, Nat.reduceLeDiff] <;> rfl) (by simp only [go_sem, eRun_exit, Nat.reduceAdd, Nat.reduceLT, Nat.reduceEqDiff, reduceIte, reduceCtorEq, Int.reduceBEq, Int.reduceBNe, Int.reduceLT, Int.reduceLE, Int.reduceGT, Int.reduceGE, Int.reduceEq, Int.reduceAdd, Int.reduceSub, Int.reduceMul, Nat.reduceMul, Nat.reduceSub, Nat.reduceLeDiff, f4] <;> rfl))
    by_cases b10 : c = 10
    · refine WS_run 1000 (by simp only [go_sem, eRun_exit, Nat.reduceAdd, Nat.reduceLT, Nat.reduceEqDiff, reduceIte, reduceCtorEq, Int.reduceBEq, Int.reduceBNe, Int.reduceLT, Int.reduceLE, Int.reduceGT, Int.reduceGE, Int.reduceEq, Int.reduceAdd, Int.reduceSub, Int.reduceMul, Nat.reduceMul, Nat.reduceSub, Nat.reduceLeDiff, k_ref8_Scan_p3, k_ref8_Scan_p2, f0, f5, hlt, hc, hw, b32, b9, b10]; rfl) ?_
      exact ih _ _ _ (by omega) (skip1 (by simp [isBlank, b32, b9, b10]) _ (by simp only [go_sem, eRun_exit, Nat.reduceAdd, Nat.reduceLT, Nat.reduceEqDiff, reduceIte, reduceCtorEq, Int.reduceBEq, Int.reduceBNe, Int.reduceLT, Int.reduceLE, Int.reduceGT, Int.reduceGE, Int.reduceEq, Int.reduceAdd, Int.reduceSub, Int.reduceMul, Nat.reduceMul, Nat.reduceSub, Nat.reduceLeDiff, f0] <;> rfl) (by simp only [go_sem, eRun_exit, Nat.reduceAdd, Nat.reduceLT, Nat.reduceEqDiff, reduceIte, reduceCtorEq, Int.reduceBEq, Int.reduceBNe, Int.reduceLT, Int.reduceLE, Int.reduceGT, Int.reduceGE, Int.reduceEq, Int.reduceAdd, Int.reduceSub, Int.reduceMul, Nat.reduceMul, Nat.reduceSub, Nat.reduceLeDiff] <;> rfl) (by simp only [go_sem, eRun_exit, Nat.reduceAdd, Nat.reduceLT, Nat.reduceEqDiff, reduceIte, reduceCtorEq, Int.reduceBEq, Int.reduceBNe, Int.reduceLT, Int.reduceLE, Int.reduceGT, Int.reduceGE, Int.reduceEq, Int.reduceAdd, Int.reduceSub, Int.reduceMul, Nat.reduceMul, Nat.reduceSub, Nat.reduceLeDiff, f4] <;> rfl))
    by_cases b13 : c = 13
    · refine WS_run 1000 (by simp only [go_sem, eRun_exit, Nat.reduceAdd, Nat.reduceLT, Nat.reduceEqDiff, reduceIte, reduceCtorEq, Int.reduceBEq, Int.reduceBNe, Int.reduceLT, Int.reduceLE, Int.reduceGT, Int.reduceGE, Int.reduceEq, Int.reduceAdd, Int.reduceSub, Int.reduceMul, Nat.reduceMul, Nat.reduceSub, Nat.reduceLeDiff, k_ref8_Scan_p3, k_ref8_Scan_p2, f0, f5, hlt, hc, hw, b32, b9, b10, b13]; rfl) ?_
      exact ih _ _ _ (by omega) (skip1 (by simp [isBlank, b32, b9, b10, b13]) _ (by simp only [go_sem, eRun_exit, Nat.reduceAdd, Nat.reduceLT, Nat.reduceEqDiff, reduceIte, reduceCtorEq, Int.reduceBEq, Int.reduceBNe, Int.reduceLT, Int.reduceLE, Int.reduceGT, Int.reduceGE, Int.reduceEq, Int.reduceAdd, Int.reduceSub, Int.reduceMul, Nat.reduceMul, Nat.reduceSub, Nat.reduceLeDiff, f0] <;> rfl) (by simp only [go_sem, eRun_exit, Nat.reduceAdd, Nat.reduceLT, Nat.reduceEqDiff, reduceIte, reduceCtorEq, Int.reduceBEq, Int.reduceBNe, Int.reduceLT, Int.reduceLE, Int.reduceGT, Int.reduceGE, Int.reduceEq, Int.reduceAdd, Int.reduceSub, Int.reduceMul, Nat.reduceMul, Nat.reduceSub, Nat.reduceLeDiff] <;> rfl) (by simp only [go_sem, eRun_exit, Nat.reduceAdd, Nat.reduceLT, Nat.reduceEqDiff, reduceIte, reduceCtorEq, Int.reduceBEq, Int.reduceBNe, Int.reduceLT, Int.reduceLE, Int.reduceGT, Int.reduceGE, Int.reduceEq, Int.reduceAdd, Int.reduceSub, Int.reduceMul, Nat.reduceMul, Nat.reduceSub, Nat.reduceLeDiff, f4] <;> rfl))
    have hnb : isBlank c = false := by simp [isBlank, b32, b9, b10, b13]
    by_cases h37 : c = 37
    · refine WS_run 1000 (by simp only [go_sem, eRun_exit, Nat.reduceAdd, Nat.reduceLT, Nat.reduceEqDiff, reduceIte, reduceCtorEq, Int.reduceBEq, Int.reduceBNe, Int.reduceLT, Int.reduceLE, Int.reduceGT, Int.reduceGE, Int.reduceEq, Int.reduceAdd, Int.reduceSub, Int.reduceMul, Nat.reduceMul, Nat.reduceSub, Nat.reduceLeDiff, k_ref8_Scan_p3, k_ref8_Scan_p2, f0, f5, hlt, hc, b32, b9, b10, b13, h37]; rfl) ?_
      -- the note
      refine WS_loop (fun n f' w' => ∃ j, f'.get 0 = some (.str s) ∧ f'.get 5 = some (.int .i64 (Int.ofNat j)) ∧ f'.get 4 = some v ∧ i ≤ j ∧ j ≤ s.length ∧ blk false (s.drop i) = (j - i) + blk true (s.drop j) ∧ n = s.length - j ∧ w' = w) ?_ (s.length - i) ⟨i, (by simp only [go_sem, eRun_exit, Nat.reduceAdd, Nat.reduceLT, Nat.reduceEqDiff, reduceIte, reduceCtorEq, Int.reduceBEq, Int.reduceBNe, Int.reduceLT, Int.reduceLE, Int.reduceGT, Int.reduceGE, Int.reduceEq, Int.reduceAdd, Int.reduceSub, Int.reduceMul, Nat.reduceMul, Nat.reduceSub, Nat.reduceLeDiff, f0] <;> rfl), (by simp only [go_sem, eRun_exit, Nat.reduceAdd, Nat.reduceLT, Nat.reduceEqDiff, reduceIte, reduceCtorEq, Int.reduceBEq, Int.reduceBNe, Int.reduceLT, Int.reduceLE, Int.reduceGT, Int.reduceGE, Int.reduceEq, Int.reduceAdd, Int.reduceSub, Int.reduceMul, Nat.reduceMul, Nat.reduceSub, Nat.reduceLeDiff, f5] <;> rfl), (by simp only [go_sem, eRun_exit, Nat.reduceAdd, Nat.reduceLT, Nat.reduceEqDiff, reduceIte, reduceCtorEq, Int.reduceBEq, Int.reduceBNe, Int.reduceLT, Int.reduceLE, Int.reduceGT, Int.reduceGE, Int.reduceEq, Int.reduceAdd, Int.reduceSub, Int.reduceMul, Nat.reduceMul, Nat.reduceSub, Nat.reduceLeDiff, f4] <;> rfl), by omega, hi, ?_, rfl, rfl⟩
      · rintro n f' w' ⟨j, g0, g5, g4, hij, hj, hbj, rfl, rfl⟩ ih2
        by_cases hjl : j < s.length
        · obtain ⟨d, hdc⟩ : ∃ d, s[j]? = some d := ⟨_, List.getElem?_eq_getElem hjl⟩
          have hdj : s.drop j = d :: s.drop (j + 1) := by
            rw [List.drop_eq_getElem_cons hjl]; rw [List.getElem?_eq_getElem hjl] at hdc; rw [Option.some.inj hdc]
          have hwj : IntKind.wrap .i64 (Int.ofNat j + 1) = Int.ofNat (j + 1) := wrap_succ (by omega)
          by_cases h10 : d = 10
          · refine WS_run 1000 (by simp only [go_sem, eRun_exit, Nat.reduceAdd, Nat.reduceLT, Nat.reduceEqDiff, reduceIte, reduceCtorEq, Int.reduceBEq, Int.reduceBNe, Int.reduceLT, Int.reduceLE, Int.reduceGT, Int.reduceGE, Int.reduceEq, Int.reduceAdd, Int.reduceSub, Int.reduceMul, Nat.reduceMul, Nat.reduceSub, Nat.reduceLeDiff, k_ref8_Scan_p0, g0, g5, hjl, hdc, h10]; rfl) ?_
            have hne : i ≠ j := by
              intro he; subst he; rw [hc] at hdc; cases hdc; omega
            refine ih _ _ _ (by omega) (skip j _ (by omega) hj ?_ (by simp only [go_sem, eRun_exit, Nat.reduceAdd, Nat.reduceLT, Nat.reduceEqDiff, reduceIte, reduceCtorEq, Int.reduceBEq, Int.reduceBNe, Int.reduceLT, Int.reduceLE, Int.reduceGT, Int.reduceGE, Int.reduceEq, Int.reduceAdd, Int.reduceSub, Int.reduceMul, Nat.reduceMul, Nat.reduceSub, Nat.reduceLeDiff, g0] <;> rfl) (by simp only [go_sem, eRun_exit, Nat.reduceAdd, Nat.reduceLT, Nat.reduceEqDiff, reduceIte, reduceCtorEq, Int.reduceBEq, Int.reduceBNe, Int.reduceLT, Int.reduceLE, Int.reduceGT, Int.reduceGE, Int.reduceEq, Int.reduceAdd, Int.reduceSub, Int.reduceMul, Nat.reduceMul, Nat.reduceSub, Nat.reduceLeDiff, g5] <;> rfl) (by simp only [go_sem, eRun_exit, Nat.reduceAdd, Nat.reduceLT, Nat.reduceEqDiff, reduceIte, reduceCtorEq, Int.reduceBEq, Int.reduceBNe, Int.reduceLT, Int.reduceLE, Int.reduceGT, Int.reduceGE, Int.reduceEq, Int.reduceAdd, Int.reduceSub, Int.reduceMul, Nat.reduceMul, Nat.reduceSub, Nat.reduceLeDiff, g4] <;> rfl))
            rw [hbj, hdj, h10]; simp [blk, isBlank]
          · refine WS_run 1000 (by simp only [go_sem, eRun_exit, Nat.reduceAdd, Nat.reduceLT, Nat.reduceEqDiff, reduceIte, reduceCtorEq, Int.reduceBEq, Int.reduceBNe, Int.reduceLT, Int.reduceLE, Int.reduceGT, Int.reduceGE, Int.reduceEq, Int.reduceAdd, Int.reduceSub, Int.reduceMul, Nat.reduceMul, Nat.reduceSub, Nat.reduceLeDiff, k_ref8_Scan_p0, g0, g5, hjl, hdc, h10, hwj]; rfl) ?_
            refine ih2 (s.length - (j + 1)) _ _ (by omega) ⟨j + 1, (by simp only [go_sem, eRun_exit, Nat.reduceAdd, Nat.reduceLT, Nat.reduceEqDiff, reduceIte, reduceCtorEq, Int.reduceBEq, Int.reduceBNe, Int.reduceLT, Int.reduceLE, Int.reduceGT, Int.reduceGE, Int.reduceEq, Int.reduceAdd, Int.reduceSub, Int.reduceMul, Nat.reduceMul, Nat.reduceSub, Nat.reduceLeDiff, g0] <;> rfl), (by simp only [go_sem, eRun_exit, Nat.reduceAdd, Nat.reduceLT, Nat.reduceEqDiff, reduceIte, reduceCtorEq, Int.reduceBEq, Int.reduceBNe, Int.reduceLT, Int.reduceLE, Int.reduceGT, Int.reduceGE, Int.reduceEq, Int.reduceAdd, Int.reduceSub, Int.reduceMul, Nat.reduceMul, Nat.reduceSub, Nat.reduceLeDiff] <;> rfl), (by simp only [go_sem, eRun_exit, Nat.reduceAdd, Nat.reduceLT, Nat.reduceEqDiff, reduceIte, reduceCtorEq, Int.reduceBEq, Int.reduceBNe, Int.reduceLT, Int.reduceLE, Int.reduceGT, Int.reduceGE, Int.reduceEq, Int.reduceAdd, Int.reduceSub, Int.reduceMul, Nat.reduceMul, Nat.reduceSub, Nat.reduceLeDiff, g4] <;> rfl), by omega, by omega, ?_, rfl, rfl⟩
            rw [hbj, hdj]; simp only [blk, if_neg h10]; omega
        · have : j = s.length := by omega
          subst this
          refine WS_run 1000 (by simp only [go_sem, eRun_exit, Nat.reduceAdd, Nat.reduceLT, Nat.reduceEqDiff, reduceIte, reduceCtorEq, Int.reduceBEq, Int.reduceBNe, Int.reduceLT, Int.reduceLE, Int.reduceGT, Int.reduceGE, Int.reduceEq, Int.reduceAdd, Int.reduceSub, Int.reduceMul, Nat.reduceMul, Nat.reduceSub, Nat.reduceLeDiff, k_ref8_Scan_p0, g0, g5, hjl]; rfl) ?_
          refine ih _ _ _ (by omega) (skip s.length _ hlt hj ?_ (by simp only [go_sem, eRun_exit, Nat.reduceAdd, Nat.reduceLT, Nat.reduceEqDiff, reduceIte, reduceCtorEq, Int.reduceBEq, Int.reduceBNe, Int.reduceLT, Int.reduceLE, Int.reduceGT, Int.reduceGE, Int.reduceEq, Int.reduceAdd, Int.reduceSub, Int.reduceMul, Nat.reduceMul, Nat.reduceSub, Nat.reduceLeDiff, g0] <;> rfl) (by simp only [go_sem, eRun_exit, Nat.reduceAdd, Nat.reduceLT, Nat.reduceEqDiff, reduceIte, reduceCtorEq, Int.reduceBEq, Int.reduceBNe, Int.reduceLT, Int.reduceLE, Int.reduceGT, Int.reduceGE, Int.reduceEq, Int.reduceAdd, Int.reduceSub, Int.reduceMul, Nat.reduceMul, Nat.reduceSub, Nat.reduceLeDiff, g5] <;> rfl) (by simp only [go_sem, eRun_exit, Nat.reduceAdd, Nat.reduceLT, Nat.reduceEqDiff, reduceIte, reduceCtorEq, Int.reduceBEq, Int.reduceBNe, Int.reduceLT, Int.reduceLE, Int.reduceGT, Int.reduceGE, Int.reduceEq, Int.reduceAdd, Int.reduceSub, Int.reduceMul, Nat.reduceMul, Nat.reduceSub, Nat.reduceLeDiff, g4] <;> rfl))
          rw [hbj, List.drop_length]; simp [blk]
      · rw [hd0, h37]; simp [blk, isBlank]
    · -- a word
      obtain ⟨t, hd⟩ : ∃ t, s.drop i = c :: t := ⟨_, hd0⟩
      have hbl : blk false (s.drop i) = 0 := by rw [hd]; simp [blk, hnb, h37]
      have hle := lexWord_le (c :: t)
      have hlen : (c :: t).length = s.length - i := by rw [← hd]; simp
      rw [scan_eq, hbl, List.drop_zero, hd] at hsc
      simp only [Nat.add_zero] at hsc
      refine WS_run 1000 (by simp only [go_sem, eRun_exit, Nat.reduceAdd, Nat.reduceLT, Nat.reduceEqDiff, reduceIte, reduceCtorEq, Int.reduceBEq, Int.reduceBNe, Int.reduceLT, Int.reduceLE, Int.reduceGT, Int.reduceGE, Int.reduceEq, Int.reduceAdd, Int.reduceSub, Int.reduceMul, Nat.reduceMul, Nat.reduceSub, Nat.reduceLeDiff, k_ref8_Scan_p3, k_ref8_Scan_p2, k_ref8_Scan_p1, f0, f5, hlt, hi, hc, b32, b9, b10, b13, h37]; rfl) ?_
      refine WS_call (by simp only [go_sem, eRun_exit, Nat.reduceAdd, Nat.reduceLT, Nat.reduceEqDiff, reduceIte, reduceCtorEq, Int.reduceBEq, Int.reduceBNe, Int.reduceLT, Int.reduceLE, Int.reduceGT, Int.reduceGE, Int.reduceEq, Int.reduceAdd, Int.reduceSub, Int.reduceMul, Nat.reduceMul, Nat.reduceSub, Nat.reduceLeDiff]) (by simp only [go_sem, eRun_exit, Nat.reduceAdd, Nat.reduceLT, Nat.reduceEqDiff, reduceIte, reduceCtorEq, Int.reduceBEq, Int.reduceBNe, Int.reduceLT, Int.reduceLE, Int.reduceGT, Int.reduceGE, Int.reduceEq, Int.reduceAdd, Int.reduceSub, Int.reduceMul, Nat.reduceMul, Nat.reduceSub, Nat.reduceLeDiff]; rfl) ?_
      rw [hd]
      refine rword_ok (c := c) (t := t) C (by omega) ?_
      intro kind w1 hkd hx1
      generalize hlw : lexWord (c :: t) = lw at hle hsc hkd
      obtain ⟨k, m⟩ := lw
      simp only at hle hsc hkd
      by_cases hm : m = 0
      · rw [if_pos (.inl hm)] at hsc
        have e1 : l = done := by simpa using (Prod.mk.inj hsc).1
        have e2 : ok = false := (Prod.mk.inj hsc).2
        have fin := h2 v w1 (by rw [e1]; exact hown.ext (Nat.le_refl _) hx1) (hext.trans (hx1.mono hext.le'))
        rw [e2] at fin
        refine WS_run 1000 (by simp only [go_sem, eRun_exit, Nat.reduceAdd, Nat.reduceLT, Nat.reduceEqDiff, reduceIte, reduceCtorEq, Int.reduceBEq, Int.reduceBNe, Int.reduceLT, Int.reduceLE, Int.reduceGT, Int.reduceGE, Int.reduceEq, Int.reduceAdd, Int.reduceSub, Int.reduceMul, Nat.reduceMul, Nat.reduceSub, Nat.reduceLeDiff, f4, hm]; rfl) ?_
        refine WS_ret ⟨_, by simp only [go_sem, eRun_exit, Nat.reduceAdd, Nat.reduceLT, Nat.reduceEqDiff, reduceIte, reduceCtorEq, Int.reduceBEq, Int.reduceBNe, Int.reduceLT, Int.reduceLE, Int.reduceGT, Int.reduceGE, Int.reduceEq, Int.reduceAdd, Int.reduceSub, Int.reduceMul, Nat.reduceMul, Nat.reduceSub, Nat.reduceLeDiff, k_ref8_Scan]; rfl, ?_⟩
        exact fin
      obtain rfl := hkd hm
      have hk4 : kind ≤ 4 := by
        have : (lexWord (c :: t)).1 ≤ 4 := by
          simp only [lexWord]
          (repeat' split) <;> simp
        rw [hlw] at this; exact this
      by_cases hbad : kind ≠ 4 ∧ 16 < m
      · rw [if_pos (.inr hbad)] at hsc
        have e1 : l = done := by simpa using (Prod.mk.inj hsc).1
        have e2 : ok = false := (Prod.mk.inj hsc).2
        have fin := h2 v w1 (by rw [e1]; exact hown.ext (Nat.le_refl _) hx1) (hext.trans (hx1.mono hext.le'))
        rw [e2] at fin
        obtain ⟨hk4', hm16⟩ := hbad
        have hk4'' : kind < 4 := by omega
        refine WS_run 1000 (by simp only [go_sem, eRun_exit, Nat.reduceAdd, Nat.reduceLT, Nat.reduceEqDiff, reduceIte, reduceCtorEq, Int.reduceBEq, Int.reduceBNe, Int.reduceLT, Int.reduceLE, Int.reduceGT, Int.reduceGE, Int.reduceEq, Int.reduceAdd, Int.reduceSub, Int.reduceMul, Nat.reduceMul, Nat.reduceSub, Nat.reduceLeDiff, f4, hm, hk4'', hm16]; rfl) ?_
        refine WS_ret ⟨_, by simp only [go_sem, eRun_exit, Nat.reduceAdd, Nat.reduceLT, Nat.reduceEqDiff, reduceIte, reduceCtorEq, Int.reduceBEq, Int.reduceBNe, Int.reduceLT, Int.reduceLE, Int.reduceGT, Int.reduceGE, Int.reduceEq, Int.reduceAdd, Int.reduceSub, Int.reduceMul, Nat.reduceMul, Nat.reduceSub, Nat.reduceLeDiff, k_ref8_Scan]; rfl, ?_⟩
        exact fin
      · rw [if_neg (by intro hh; rcases hh with hh | hh; exact hm hh; exact hbad hh)] at hsc
        have hw1 : IntKind.wrap .i64 (Int.ofNat i + Int.ofNat m) = Int.ofNat (i + m) := wrap_add (by omega)
        have hc1 : i + m ≤ s.length := by omega
        have hc2 : i ≤ i + m := Nat.le_add_right _ _
        have hown1 := hown.ext (Nat.le_refl _) hx1
        have hN1 : aw.next ≤ w1.next := Nat.le_trans hext.le' hx1.next
        obtain ⟨v2, w2, happ, hown2, hx2⟩ := hown1.push (bytes := 32) hN1 (by omega) (news := wdCells ⟨kind, (s.drop i).take m, i⟩) rfl rfl (by omega) (by omega)
        have hel := elems_fresh (w := w1) (esz := 3) (n := 1) (c := .known 1) (cs := wdCells ⟨kind, (s.drop i).take m, i⟩) (by omega) rfl
        simp only [wdCells] at happ hel
        by_cases hk4 : kind < 4
        · have h16 : ¬ 16 < m := fun hh => hbad ⟨by omega, hh⟩
          refine WS_run 1000 (by simp only [go_sem, eRun_exit, Nat.reduceAdd, Nat.reduceLT, Nat.reduceEqDiff, reduceIte, reduceCtorEq, Int.reduceBEq, Int.reduceBNe, Int.reduceLT, Int.reduceLE, Int.reduceGT, Int.reduceGE, Int.reduceEq, Int.reduceAdd, Int.reduceSub, Int.reduceMul, Nat.reduceMul, Nat.reduceSub, Nat.reduceLeDiff, f0, f5, f4, hm, hk4, h16, hw1, hc1, hc2, k_ref8_Scan_p1, evParts, fillV, V.cells, over, List.length_cons, List.length_nil, hel, happ]; rfl) ?_
          refine ih (s.length - (i + m)) _ _ (by omega) ⟨i + m, v2, done ++ [⟨kind, (s.drop i).take m, i⟩], (by simp only [go_sem, eRun_exit, Nat.reduceAdd, Nat.reduceLT, Nat.reduceEqDiff, reduceIte, reduceCtorEq, Int.reduceBEq, Int.reduceBNe, Int.reduceLT, Int.reduceLE, Int.reduceGT, Int.reduceGE, Int.reduceEq, Int.reduceAdd, Int.reduceSub, Int.reduceMul, Nat.reduceMul, Nat.reduceSub, Nat.reduceLeDiff, f0] <;> rfl), (by simp only [go_sem, eRun_exit, Nat.reduceAdd, Nat.reduceLT, Nat.reduceEqDiff, reduceIte, reduceCtorEq, Int.reduceBEq, Int.reduceBNe, Int.reduceLT, Int.reduceLE, Int.reduceGT, Int.reduceGE, Int.reduceEq, Int.reduceAdd, Int.reduceSub, Int.reduceMul, Nat.reduceMul, Nat.reduceSub, Nat.reduceLeDiff] <;> rfl), (by simp only [go_sem, eRun_exit, Nat.reduceAdd, Nat.reduceLT, Nat.reduceEqDiff, reduceIte, reduceCtorEq, Int.reduceBEq, Int.reduceBNe, Int.reduceLT, Int.reduceLE, Int.reduceGT, Int.reduceGE, Int.reduceEq, Int.reduceAdd, Int.reduceSub, Int.reduceMul, Nat.reduceMul, Nat.reduceSub, Nat.reduceLeDiff] <;> rfl), ?_, hext.trans ((hx1.mono hext.le').trans hx2), by omega, ?_, by simp only [List.length_append, List.length_cons, List.length_nil]; omega, rfl⟩
          · rw [wdsCells_snoc, List.length_append]; exact hown2
          · rw [hsc, hd]
            have hdr : (c :: t).drop m = s.drop (i + m) := by rw [← hd, List.drop_drop]
            rw [hdr]
            simp
        · have h16 : True := trivial
          refine WS_run 1000 (by simp only [go_sem, eRun_exit, Nat.reduceAdd, Nat.reduceLT, Nat.reduceEqDiff, reduceIte, reduceCtorEq, Int.reduceBEq, Int.reduceBNe, Int.reduceLT, Int.reduceLE, Int.reduceGT, Int.reduceGE, Int.reduceEq, Int.reduceAdd, Int.reduceSub, Int.reduceMul, Nat.reduceMul, Nat.reduceSub, Nat.reduceLeDiff, f0, f5, f4, hm, hk4, h16, hw1, hc1, hc2, k_ref8_Scan_p1, evParts, fillV, V.cells, over, List.length_cons, List.length_nil, hel, happ]; rfl) ?_
          refine ih (s.length - (i + m)) _ _ (by omega) ⟨i + m, v2, done ++ [⟨kind, (s.drop i).take m, i⟩], (by simp only [go_sem, eRun_exit, Nat.reduceAdd, Nat.reduceLT, Nat.reduceEqDiff, reduceIte, reduceCtorEq, Int.reduceBEq, Int.reduceBNe, Int.reduceLT, Int.reduceLE, Int.reduceGT, Int.reduceGE, Int.reduceEq, Int.reduceAdd, Int.reduceSub, Int.reduceMul, Nat.reduceMul, Nat.reduceSub, Nat.reduceLeDiff, f0] <;> rfl), (by simp only [go_sem, eRun_exit, Nat.reduceAdd, Nat.reduceLT, Nat.reduceEqDiff, reduceIte, reduceCtorEq, Int.reduceBEq, Int.reduceBNe, Int.reduceLT, Int.reduceLE, Int.reduceGT, Int.reduceGE, Int.reduceEq, Int.reduceAdd, Int.reduceSub, Int.reduceMul, Nat.reduceMul, Nat.reduceSub, Nat.reduceLeDiff] <;> rfl), (by simp only [go_sem, eRun_exit, Nat.reduceAdd, Nat.reduceLT, Nat.reduceEqDiff, reduceIte, reduceCtorEq, Int.reduceBEq, Int.reduceBNe, Int.reduceLT, Int.reduceLE, Int.reduceGT, Int.reduceGE, Int.reduceEq, Int.reduceAdd, Int.reduceSub, Int.reduceMul, Nat.reduceMul, Nat.reduceSub, Nat.reduceLeDiff] <;> rfl), ?_, hext.trans ((hx1.mono hext.le').trans hx2), by omega, ?_, by simp only [List.length_append, List.length_cons, List.length_nil]; omega, rfl⟩
          · rw [wdsCells_snoc, List.length_append]; exact hown2
          · rw [hsc, hd]
            have hdr : (c :: t).drop m = s.drop (i + m) := by rw [← hd, List.drop_drop]
            rw [hdr]
            simp
  · have : i = s.length := by omega
    subst this
    refine WS_run 1000 (by simp only [go_sem, eRun_exit, Nat.reduceAdd, Nat.reduceLT, Nat.reduceEqDiff, reduceIte, reduceCtorEq, Int.reduceBEq, Int.reduceBNe, Int.reduceLT, Int.reduceLE, Int.reduceGT, Int.reduceGE, Int.reduceEq, Int.reduceAdd, Int.reduceSub, Int.reduceMul, Nat.reduceMul, Nat.reduceSub, Nat.reduceLeDiff, k_ref8_Scan_p3, f0, f5, f4, hlt]; rfl) ?_
    refine WS_ret ⟨_, by simp only [go_sem, eRun_exit, Nat.reduceAdd, Nat.reduceLT, Nat.reduceEqDiff, reduceIte, reduceCtorEq, Int.reduceBEq, Int.reduceBNe, Int.reduceLT, Int.reduceLE, Int.reduceGT, Int.reduceGE, Int.reduceEq, Int.reduceAdd, Int.reduceSub, Int.reduceMul, Nat.reduceMul, Nat.reduceSub, Nat.reduceLeDiff, k_ref8_Scan]; rfl, ?_⟩
    rw [List.drop_length] at hsc
    have hz : scan s.length ([] : List Nat) = ([], true) := by rw [scan_eq]; rfl
    rw [hz] at hsc
    have e1 : l = done := by simpa using (Prod.mk.inj hsc).1
    have e2 : ok = true := (Prod.mk.inj hsc).2
    have := h2 v w (by rw [e1]; exact hown) hext
    rw [e2] at this
    exact this
end Go.Proofs.Ytjidefnbancmfaa

/- Programs: what reading them comes to, in plain lists of words. -/
set_option linter.unusedVariables false
set_option linter.unusedSimpArgs false
namespace Delphi
structure Tm where
  kind : Nat
  name : List Nat
  num : Int
  deriving DecidableEq
structure Lt where
  kind : Nat
  name : List Nat
  args : List Tm
  deriving DecidableEq
structure Rl where
  head : Lt
  body : List Lt
  deriving DecidableEq
def Tm.zero : Tm := ⟨0, [], 0⟩
def Lt.zero : Lt := ⟨0, [], []⟩
def rBad (e x : Nat) : Nat := if e = 0 then x else e
def rSign (ws : List Wd) (k : Nat) (s : List Nat) : Bool :=
  match ws[k]? with
  | some w => decide (w.kind = 4) && decide (w.text = s)
  | none => false
def rEat (ws : List Wd) (s : List Nat) (k e : Nat) : Nat × Nat :=
  if e = 0 then (if rSign ws k s then (k + 1, e) else (k, 4)) else (k, e)
def rDig (n c : Nat) : Nat := if c = 45 then n else n * 10 + (c + 208) % 256
def rNum (s : List Nat) : Nat := s.foldl rDig 0
/-- the next word, if there was no error. -/
def rNext (ws : List Wd) (k e : Nat) : Option Wd := if e = 0 then ws[k]? else none
def rTerm (ws : List Wd) (k e : Nat) : Tm × Nat × Nat :=
  match rNext ws k e with
  | none => (Tm.zero, k, rBad e 4)
  | some w =>
    if w.kind = 4 then (Tm.zero, k, 4)
    else if w.kind = 1 then (⟨2, w.text, 0⟩, k + 1, e)
    else if w.kind = 2 then (⟨1, w.text, 0⟩, k + 1, e)
    else if 2147483648 < rNum w.text then (Tm.zero, k + 1, 4)
    else (⟨3, [], if w.text.head? = some 45 then -(rNum w.text : Int) else (rNum w.text : Int)⟩, k + 1, e)
def rArgs (ws : List Wd) : Nat → List Tm → Nat → Nat → List Tm × Nat × Nat
  | 0, args, k, e => (args, k, e)
  | n + 1, args, k, e =>
    if e = 0 then
      let r := rTerm ws k e
      let e2 := if r.2.2 = 0 ∧ args.length = 4 then 8 else r.2.2
      if rSign ws r.2.1 [44] then rArgs ws n (args ++ [r.1]) (r.2.1 + 1) e2 else (args ++ [r.1], r.2.1, e2)
    else (args, k, e)
def rAtom (ws : List Wd) (k e : Nat) : Lt × Nat × Nat :=
  match rNext ws k e with
  | none => (Lt.zero, k, rBad e 4)
  | some w =>
    if w.kind = 1 then
      if rSign ws (k + 1) [40] then
        let r := rArgs ws (ws.length + 1) [] (k + 2) e
        let q := rEat ws [41] r.2.1 r.2.2
        (⟨1, w.text, r.1⟩, q.1, q.2)
      else (⟨1, w.text, []⟩, k + 1, e)
    else (Lt.zero, k, 4)
def rCompare (s : List Nat) : Nat :=
  if s = [61] then 3 else if s = [33, 61] then 4 else if s = [60] then 5 else if s = [60, 61] then 6 else 0
/-- a comparing sign at that place: its kind. -/
def rCmpAt (ws : List Wd) (k : Nat) : Nat :=
  match ws[k]? with
  | some w => if w.kind = 4 then rCompare w.text else 0
  | none => 0
def rKind (ws : List Wd) (k : Nat) : Nat :=
  match ws[k]? with
  | some w => w.kind
  | none => 0
def rLit (ws : List Wd) (k e : Nat) : Lt × Nat × Nat :=
  if rSign ws k [33] then
    let r := rAtom ws (k + 1) e
    ({ r.1 with kind := 2 }, r.2.1, r.2.2)
  else if rKind ws k = 1 ∧ rCmpAt ws (k + 1) = 0 then rAtom ws k e
  else
    let a := rTerm ws k e
    if a.2.2 ≠ 0 ∨ rCmpAt ws a.2.1 = 0 then (Lt.zero, a.2.1, rBad a.2.2 4)
    else
      let b := rTerm ws (a.2.1 + 1) a.2.2
      (⟨rCmpAt ws a.2.1, [], [a.1, b.1]⟩, b.2.1, b.2.2)
def rBody (ws : List Wd) : Nat → List Lt → Nat → Nat → List Lt × Nat × Nat
  | 0, l, k, e => (l, k, e)
  | n + 1, l, k, e =>
    if e = 0 then
      let r := rLit ws k e
      let e2 := if r.2.2 = 0 ∧ l.length = 6 then 8 else r.2.2
      if rSign ws r.2.1 [44] then rBody ws n (l ++ [r.1]) (r.2.1 + 1) e2 else (l ++ [r.1], r.2.1, e2)
    else (l, k, e)
def rClause (ws : List Wd) (k e : Nat) : Rl × Nat × Nat :=
  let h := rAtom ws k e
  let b := if rSign ws h.2.1 [58, 45] = true ∧ h.2.2 = 0 then rBody ws (ws.length + 1) [] (h.2.1 + 1) h.2.2 else ([], h.2.1, h.2.2)
  let q := rEat ws [46] b.2.1 b.2.2
  (⟨h.1, b.1⟩, q.1, q.2)
def rRules (ws : List Wd) : Nat → List Rl → Nat → Nat → List Rl × Nat × Nat
  | 0, l, k, e => (l, k, e)
  | n + 1, l, k, e =>
    if e = 0 ∧ k < ws.length then
      let r := rClause ws k e
      let e2 := if r.2.2 = 0 ∧ l.length = 30 then 8 else r.2.2
      rRules ws n (l ++ [r.1]) r.2.1 e2
    else (l, k, e)
def rProgram (s : List Nat) : List Rl × Nat :=
  if 4000 < s.length then ([], 8)
  else
    let ws := (scan 0 s).1
    let r := rRules ws (ws.length + 1) [] 0 0
    let e := rBad r.2.2 (if (scan 0 s).2 then 0 else 4)
    if e = 0 then (r.1, 0) else ([], e)
/-! ### how far it goes -/
theorem rTerm_ge (ws : List Wd) (k e : Nat) : k ≤ (rTerm ws k e).2.1 := by
  unfold rTerm
  (repeat' split) <;> simp
theorem rTerm_le {ws : List Wd} {k e : Nat} (h : k ≤ ws.length) : (rTerm ws k e).2.1 ≤ ws.length := by
  unfold rTerm
  split
  · exact h
  · rename_i w hw
    have hk : k < ws.length := by
      unfold rNext at hw
      split at hw
      · exact (List.getElem?_eq_some_iff.1 hw).1
      · cases hw
    (repeat' split) <;> simp <;> omega
theorem rSign_lt {ws : List Wd} {k : Nat} {s : List Nat} (h : rSign ws k s = true) : k < ws.length := by
  unfold rSign at h
  split at h
  · rename_i w hw; exact (List.getElem?_eq_some_iff.1 hw).1
  · cases h
theorem rArgs_ge {ws : List Wd} : ∀ (n : Nat) (args : List Tm) (k e : Nat), k ≤ (rArgs ws n args k e).2.1
  | 0, _, _, _ => Nat.le_refl _
  | n + 1, args, k, e => by
    have h1 := rTerm_ge ws k e
    simp only [rArgs]
    split
    · split
      · exact Nat.le_trans (by omega) (rArgs_ge n _ _ _)
      · exact h1
    · exact Nat.le_refl _
theorem rArgs_le {ws : List Wd} : ∀ (n : Nat) (args : List Tm) (k e : Nat), k ≤ ws.length → (rArgs ws n args k e).2.1 ≤ ws.length
  | 0, _, _, _, h => h
  | n + 1, args, k, e, h => by
    have h1 := rTerm_le (e := e) h
    simp only [rArgs]
    split
    · split
      · rename_i hs; exact rArgs_le n _ _ _ (rSign_lt hs)
      · exact h1
    · exact h
theorem rEat_ge (ws : List Wd) (s : List Nat) (k e : Nat) : k ≤ (rEat ws s k e).1 := by
  unfold rEat; (repeat' split) <;> simp
theorem rEat_le {ws : List Wd} {s : List Nat} {k e : Nat} (h : k ≤ ws.length) : (rEat ws s k e).1 ≤ ws.length := by
  unfold rEat
  split
  · split
    · rename_i hs; exact rSign_lt hs
    · exact h
  · exact h
theorem rNext_lt {ws : List Wd} {k e : Nat} {w : Wd} (h : rNext ws k e = some w) : k < ws.length ∧ e = 0 ∧ ws[k]? = some w := by
  unfold rNext at h
  split at h
  · rename_i he; exact ⟨(List.getElem?_eq_some_iff.1 h).1, he, h⟩
  · cases h
theorem rAtom_ge (ws : List Wd) (k e : Nat) : k ≤ (rAtom ws k e).2.1 := by
  unfold rAtom
  split
  · exact Nat.le_refl _
  · split
    · split
      · exact Nat.le_trans (Nat.le_trans (by omega) (rArgs_ge _ _ (k + 2) e)) (rEat_ge ..)
      · simp
    · exact Nat.le_refl _
theorem rAtom_le {ws : List Wd} {k e : Nat} (h : k ≤ ws.length) : (rAtom ws k e).2.1 ≤ ws.length := by
  unfold rAtom
  split
  · exact h
  · rename_i w hw
    have hk := (rNext_lt hw).1
    split
    · split
      · rename_i hs
        have := rSign_lt hs
        exact rEat_le (rArgs_le _ _ _ _ (by omega))
      · exact hk
    · exact h
/-- an atom that was read without error took a word. -/
theorem rAtom_gt {ws : List Wd} {k e : Nat} (h : (rAtom ws k e).2.2 = 0) : k < (rAtom ws k e).2.1 := by
  unfold rAtom at h ⊢
  split
  · rename_i hn
    rw [hn] at h
    simp only [rBad] at h
    split at h
    · omega
    · omega
  · rename_i w hw
    rw [hw] at h
    simp only at h ⊢
    split
    · split
      · exact Nat.lt_of_lt_of_le (Nat.lt_of_lt_of_le (by omega) (rArgs_ge _ _ (k + 2) e)) (rEat_ge ..)
      · simp
    · rename_i hk
      rw [if_neg hk] at h
      simp at h
theorem rLit_ge (ws : List Wd) (k e : Nat) : k ≤ (rLit ws k e).2.1 := by
  have h1 := rTerm_ge ws k e
  unfold rLit
  split
  · exact Nat.le_trans (by omega) (rAtom_ge ws (k + 1) e)
  · split
    · exact rAtom_ge ws k e
    · simp only
      split
      · exact h1
      · exact Nat.le_trans (by omega) (rTerm_ge ws ((rTerm ws k e).2.1 + 1) (rTerm ws k e).2.2)
theorem rCmpAt_lt {ws : List Wd} {k : Nat} (h : rCmpAt ws k ≠ 0) : k < ws.length := by
  unfold rCmpAt at h
  split at h
  · rename_i w hw; exact (List.getElem?_eq_some_iff.1 hw).1
  · exact absurd rfl h
theorem rLit_le {ws : List Wd} {k e : Nat} (h : k ≤ ws.length) : (rLit ws k e).2.1 ≤ ws.length := by
  have h1 := rTerm_le (e := e) h
  unfold rLit
  split
  · rename_i hs; exact rAtom_le (rSign_lt hs)
  · split
    · exact rAtom_le h
    · simp only
      split
      · exact h1
      · rename_i hn
        have : rCmpAt ws (rTerm ws k e).2.1 ≠ 0 := fun h => hn (.inr h)
        exact rTerm_le (rCmpAt_lt this)
theorem rBody_ge {ws : List Wd} : ∀ (n : Nat) (l : List Lt) (k e : Nat), k ≤ (rBody ws n l k e).2.1
  | 0, _, _, _ => Nat.le_refl _
  | n + 1, l, k, e => by
    have h1 := rLit_ge ws k e
    simp only [rBody]
    split
    · split
      · exact Nat.le_trans (by omega) (rBody_ge n _ _ _)
      · exact h1
    · exact Nat.le_refl _
theorem rBody_le {ws : List Wd} : ∀ (n : Nat) (l : List Lt) (k e : Nat), k ≤ ws.length → (rBody ws n l k e).2.1 ≤ ws.length
  | 0, _, _, _, h => h
  | n + 1, l, k, e, h => by
    have h1 := rLit_le (e := e) h
    simp only [rBody]
    split
    · split
      · rename_i hs; exact rBody_le n _ _ _ (rSign_lt hs)
      · exact h1
    · exact h
theorem rClause_le {ws : List Wd} {k e : Nat} (h : k ≤ ws.length) : (rClause ws k e).2.1 ≤ ws.length := by
  have h1 := rAtom_le (e := e) h
  unfold rClause
  simp only
  split
  · rename_i hs; exact rEat_le (rBody_le _ _ _ _ (rSign_lt hs.1))
  · exact rEat_le h1
theorem rEat_e {ws : List Wd} {s : List Nat} {k e : Nat} (h : (rEat ws s k e).2 = 0) : e = 0 := by
  unfold rEat at h
  split at h
  · assumption
  · exact h
theorem rClause_ge (ws : List Wd) (k e : Nat) : k ≤ (rClause ws k e).2.1 := by
  have h1 := rAtom_ge ws k e
  unfold rClause
  simp only
  split
  · exact Nat.le_trans (Nat.le_trans (by omega) (rBody_ge _ _ ((rAtom ws k e).2.1 + 1) _)) (rEat_ge ..)
  · exact Nat.le_trans h1 (rEat_ge ..)
/-- a clause that was read without error took a word. -/
theorem rClause_gt {ws : List Wd} {k e : Nat} (h : (rClause ws k e).2.2 = 0) : k < (rClause ws k e).2.1 := by
  unfold rClause at h ⊢
  simp only at h ⊢
  split
  · rename_i hs
    exact Nat.lt_of_lt_of_le (Nat.lt_of_lt_of_le (Nat.lt_of_le_of_lt (rAtom_ge ws k e) (Nat.lt_succ_self _)) (rBody_ge _ _ ((rAtom ws k e).2.1 + 1) _)) (rEat_ge ..)
  · rename_i hs
    rw [if_neg hs] at h
    have := rEat_e h
    exact Nat.lt_of_lt_of_le (rAtom_gt this) (rEat_ge ..)
end Delphi

set_option linter.unusedVariables false
set_option linter.unusedSimpArgs false
open Go.RowKit Go.WideShapes Go.ChangeShapes
namespace Go.AE
theorem Goes.belowRo {aw aw' : AW} {w w' : World} {m m' : Map} (h : Goes aw aw' w w' m m') (hm : ∀ b e x, m b = some e → aw.heap.get b = some x → ∃ l, x = .cells l .ro) : Below w.heap.size w w' :=
  ⟨h.os, h.tape, h.output, h.size, fun k hk => h.frame k hk fun b e x hb hx hro => by obtain ⟨l, hl⟩ := hm b e x hb hx; exact absurd hl (hro l)⟩
section
variable {H : Type} {enc : TypeId × Value → H} {P : Program}
theorem below_trodAll (hl : laidOutB P = true) {W W' : World} (hb : Below W.heap.size W W') : ∀ {ts : List TypeId} {vs : List Value} {ds : List (DataW H)} {ps : List MemPlace}, (∀ t ∈ ts, P.readableRec t = true ∧ t < P.types.size) →
    DataW.TrodAll enc P W 0 (fun _ => true) true ts vs ds ps → (∀ x ∈ ps, x.block < W.heap.size) → DataW.TrodAll enc P W' 0 (fun b => decide (b < W.heap.size)) true ts vs ds ps
  | [], vs, ds, ps, _, h, _ => by
    obtain ⟨rfl, rfl, rfl⟩ := trodAll_nil h
    exact trodAll_mk0
  | t :: ts, vs, ds, ps, hr, h, hlt => by
    obtain ⟨v, vs', d, ds', p, q, rfl, rfl, rfl, hd, hrest⟩ := trodAll_cons h
    have h1 := hr t (by simp)
    exact trodAll_cons_mk (Below.trod hl h1.1 h1.2 hd hb (fun x hx => hlt x (by simp [hx]))) (below_trodAll hl hb (fun t ht => hr t (by simp [ht])) hrest (fun x hx => hlt x (by simp [hx])))
/-- a law's end: true; the arguments read as they did; nothing that was there has turned. -/
theorem law_post {f : Func} {s : ChangeSpec} {apart fresh handsOn : Bool} {W W' : World} {args : Array Value} {ds gs : List (DataW H)} {before : List MemPlace} {tb : TypeId}
    (hW : DataW.Whole enc P f.params.toList s.vars apart W args.toList ds gs before) (hl : laidOutB P = true) (hr : ∀ t ∈ f.params.toList, P.readableRec t = true ∧ t < P.types.size)
    (hb : Below W.heap.size W W') (hsv : s.vars = []) (hres : f.resultTypes = #[tb]) (htb : P.underlying tb = some .bool) (hfn : (s.fn H (ds ++ gs)).results = [.lit (.bool true)]) (hfa : (s.fn H (ds ++ gs)).args = ds) (hfv : (s.fn H (ds ++ gs)).vars = []) :
    s.post enc P f apart fresh handsOn false W args (.bool true) W' := by
  have hlt : ∀ x ∈ before, x.block < W.heap.size := fun x hx => hW.lt x hx
  obtain ⟨p, q, hA, hV, hbe, hfz, hnd⟩ := id hW
  rw [hsv] at hV
  obtain ⟨rfl, rfl⟩ := trodVars_none hV
  have hbe' : before = p := by simpa using hbe
  subst hbe'
  have hA' := below_trodAll hl hb hr hA hlt
  refine ⟨ds, [], before, [], before, [], hW, ?_, ?_, ?_, hb.frame _, fun h => by cases h⟩
  · rw [hfn, hres]
    exact trodAll_cons_mk (shut_bool htb _) trodAll_mk0
  · rw [hfa]; exact hA'
  · rw [hfv, hsv]; exact rfl
end
end Go.AE
