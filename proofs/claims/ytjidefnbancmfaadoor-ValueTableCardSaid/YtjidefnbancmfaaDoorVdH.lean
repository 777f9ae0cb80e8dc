/- A part of the proof: PVal2, PVal3, PVal4, PVal5, PVal6, PVal8, PVal9, PVal10, PVal11, PVal12, PVal13, PVal14. -/
import Derived.Test.YtjidefnbancmfaaDoorVdG
/- Constants: names, as the document says. -/
set_option linter.unusedVariables false
set_option maxRecDepth 10000
set_option linter.unusedSimpArgs false
namespace Go.Proofs.YtjidefnbancmfaaDoor
open Go.AE Delphi
variable {tab : Tab}
/-- delphiref8.Name. -/
theorem name_ok (C : Codes tab) {s : List Nat} {aw : AW} {K : V → AW → Prop} (hn : s.length ≤ 1000000) (hb : ∀ c ∈ s, c < 256) (h : K (.bool (wordB s)) aw) : WF tab n_ref8_Name [.str s] aw K := by
  refine WF_of C.c_ref8_Name rfl ?_
  refine WS_run 1000 (by simp only [go_sem, eRun_exit, Nat.reduceAdd, Nat.reduceLT, Nat.reduceEqDiff, reduceIte, reduceCtorEq, Int.reduceBEq, Int.reduceBNe, Int.reduceLT, Int.reduceLE, Int.reduceGT, Int.reduceGE, Int.reduceEq, Int.reduceAdd, Int.reduceSub, Int.reduceMul, Nat.reduceMul, Nat.reduceSub, Nat.reduceLeDiff, k_ref8_Name]; rfl) ?_
  refine WS_loopJ (fun q f w => WdI s 3 aw q f w) (fun f w => f.get 0 = some (.str s) ∧ okAll 0 s = true ∧ w = aw) ?_ ?_ s.length ⟨0, (by simp only [go_sem, eRun_exit, Nat.reduceAdd, Nat.reduceLT, Nat.reduceEqDiff, reduceIte, reduceCtorEq, Int.reduceBEq, Int.reduceBNe, Int.reduceLT, Int.reduceLE, Int.reduceGT, Int.reduceGE, Int.reduceEq, Int.reduceAdd, Int.reduceSub, Int.reduceMul, Nat.reduceMul, Nat.reduceSub, Nat.reduceLeDiff] <;> rfl), (by simp only [go_sem, eRun_exit, Nat.reduceAdd, Nat.reduceLT, Nat.reduceEqDiff, reduceIte, reduceCtorEq, Int.reduceBEq, Int.reduceBNe, Int.reduceLT, Int.reduceLE, Int.reduceGT, Int.reduceGE, Int.reduceEq, Int.reduceAdd, Int.reduceSub, Int.reduceMul, Nat.reduceMul, Nat.reduceSub, Nat.reduceLeDiff] <;> rfl), by omega, rfl, by simp [okAll], rfl⟩
  · rintro q f w ⟨i, f0, f3, hi, rfl, hok, rfl⟩ ih exit
    by_cases hlt : i < s.length
    case neg =>
      rw [List.take_of_length_le (by omega)] at hok
      refine WS_runB 1000 (by simp only [go_sem, Nat.reduceAdd, Nat.reduceLT, Nat.reduceEqDiff, reduceIte, reduceCtorEq, Int.reduceBEq, Int.reduceBNe, Int.reduceLT, Int.reduceLE, Int.reduceGT, Int.reduceGE, Int.reduceEq, Int.reduceAdd, Int.reduceSub, Int.reduceMul, Nat.reduceMul, Nat.reduceSub, Nat.reduceLeDiff, k_ref8_Name_p1, f0, f3, hlt]; rfl) ?_
      exact exit _ _ _ ⟨(by simp only [go_sem, eRun_exit, Nat.reduceAdd, Nat.reduceLT, Nat.reduceEqDiff, reduceIte, reduceCtorEq, Int.reduceBEq, Int.reduceBNe, Int.reduceLT, Int.reduceLE, Int.reduceGT, Int.reduceGE, Int.reduceEq, Int.reduceAdd, Int.reduceSub, Int.reduceMul, Nat.reduceMul, Nat.reduceSub, Nat.reduceLeDiff, f0] <;> rfl), hok, rfl⟩ rfl
    obtain ⟨c, hc⟩ : ∃ c, s[i]? = some c := ⟨_, List.getElem?_eq_getElem hlt⟩
    have hwr : IntKind.wrap .i64 (Int.ofNat i + 1) = Int.ofNat (i + 1) := wrap_succ (by omega)
    have bad : okc i c = false → wordB s = false := fun hk => by
      have := okAll_bad (i := 0) hc (by rw [Nat.zero_add]; exact hk)
      simp only [wordB, this, Bool.false_and]
    by_cases a : 97 ≤ c
    · by_cases b : c ≤ 122
      · refine WS_run 1000 (by simp only [go_sem, eRun_exit, Nat.reduceAdd, Nat.reduceLT, Nat.reduceEqDiff, reduceIte, reduceCtorEq, Int.reduceBEq, Int.reduceBNe, Int.reduceLT, Int.reduceLE, Int.reduceGT, Int.reduceGE, Int.reduceEq, Int.reduceAdd, Int.reduceSub, Int.reduceMul, Nat.reduceMul, Nat.reduceSub, Nat.reduceLeDiff, k_ref8_Name_p1, k_ref8_Name_p0, f0, f3, hlt, hc, hwr, a, b]; rfl) ?_
        exact ih (s.length - (i + 1)) _ _ (by omega) ⟨i + 1, (by simp only [go_sem, eRun_exit, Nat.reduceAdd, Nat.reduceLT, Nat.reduceEqDiff, reduceIte, reduceCtorEq, Int.reduceBEq, Int.reduceBNe, Int.reduceLT, Int.reduceLE, Int.reduceGT, Int.reduceGE, Int.reduceEq, Int.reduceAdd, Int.reduceSub, Int.reduceMul, Nat.reduceMul, Nat.reduceSub, Nat.reduceLeDiff, f0] <;> rfl), (by simp only [go_sem, eRun_exit, Nat.reduceAdd, Nat.reduceLT, Nat.reduceEqDiff, reduceIte, reduceCtorEq, Int.reduceBEq, Int.reduceBNe, Int.reduceLT, Int.reduceLE, Int.reduceGT, Int.reduceGE, Int.reduceEq, Int.reduceAdd, Int.reduceSub, Int.reduceMul, Nat.reduceMul, Nat.reduceSub, Nat.reduceLeDiff] <;> rfl), by omega, rfl, take_ok hc hok (by simp [okc, a, b]), rfl⟩
      · by_cases z : i = 0
        · subst z
          refine WS_run 1000 (by simp only [go_sem, eRun_exit, Nat.reduceAdd, Nat.reduceLT, Nat.reduceEqDiff, reduceIte, reduceCtorEq, Int.reduceBEq, Int.reduceBNe, Int.reduceLT, Int.reduceLE, Int.reduceGT, Int.reduceGE, Int.reduceEq, Int.reduceAdd, Int.reduceSub, Int.reduceMul, Nat.reduceMul, Nat.reduceSub, Nat.reduceLeDiff, k_ref8_Name_p1, k_ref8_Name_p0, f0, f3, hlt, hc, hwr, a, b]; rfl) ?_
          rw [bad (by simp [okc, a, b])] at h
          refine WS_ret ⟨_, by simp only [go_sem, eRun_exit, Nat.reduceAdd, Nat.reduceLT, Nat.reduceEqDiff, reduceIte, reduceCtorEq, Int.reduceBEq, Int.reduceBNe, Int.reduceLT, Int.reduceLE, Int.reduceGT, Int.reduceGE, Int.reduceEq, Int.reduceAdd, Int.reduceSub, Int.reduceMul, Nat.reduceMul, Nat.reduceSub, Nat.reduceLeDiff, k_ref8_Name]; rfl, ?_⟩
          exact h
        · by_cases d : 48 ≤ c
          · by_cases e9 : c ≤ 57
            · refine WS_run 1000 (by simp only [go_sem, eRun_exit, Nat.reduceAdd, Nat.reduceLT, Nat.reduceEqDiff, reduceIte, reduceCtorEq, Int.reduceBEq, Int.reduceBNe, Int.reduceLT, Int.reduceLE, Int.reduceGT, Int.reduceGE, Int.reduceEq, Int.reduceAdd, Int.reduceSub, Int.reduceMul, Nat.reduceMul, Nat.reduceSub, Nat.reduceLeDiff, k_ref8_Name_p1, k_ref8_Name_p0, f0, f3, hlt, hc, hwr, a, b, z, d, e9]; rfl) ?_
              exact ih (s.length - (i + 1)) _ _ (by omega) ⟨i + 1, (by simp only [go_sem, eRun_exit, Nat.reduceAdd, Nat.reduceLT, Nat.reduceEqDiff, reduceIte, reduceCtorEq, Int.reduceBEq, Int.reduceBNe, Int.reduceLT, Int.reduceLE, Int.reduceGT, Int.reduceGE, Int.reduceEq, Int.reduceAdd, Int.reduceSub, Int.reduceMul, Nat.reduceMul, Nat.reduceSub, Nat.reduceLeDiff, f0] <;> rfl), (by simp only [go_sem, eRun_exit, Nat.reduceAdd, Nat.reduceLT, Nat.reduceEqDiff, reduceIte, reduceCtorEq, Int.reduceBEq, Int.reduceBNe, Int.reduceLT, Int.reduceLE, Int.reduceGT, Int.reduceGE, Int.reduceEq, Int.reduceAdd, Int.reduceSub, Int.reduceMul, Nat.reduceMul, Nat.reduceSub, Nat.reduceLeDiff] <;> rfl), by omega, rfl, take_ok hc hok (by simp [okc, a, b, z, d, e9]), rfl⟩
            · by_cases n9 : c = 95
              · refine WS_run 1000 (by simp only [go_sem, eRun_exit, Nat.reduceAdd, Nat.reduceLT, Nat.reduceEqDiff, reduceIte, reduceCtorEq, Int.reduceBEq, Int.reduceBNe, Int.reduceLT, Int.reduceLE, Int.reduceGT, Int.reduceGE, Int.reduceEq, Int.reduceAdd, Int.reduceSub, Int.reduceMul, Nat.reduceMul, Nat.reduceSub, Nat.reduceLeDiff, k_ref8_Name_p1, k_ref8_Name_p0, f0, f3, hlt, hc, hwr, a, b, z, d, e9, n9]; rfl) ?_
                exact ih (s.length - (i + 1)) _ _ (by omega) ⟨i + 1, (by simp only [go_sem, eRun_exit, Nat.reduceAdd, Nat.reduceLT, Nat.reduceEqDiff, reduceIte, reduceCtorEq, Int.reduceBEq, Int.reduceBNe, Int.reduceLT, Int.reduceLE, Int.reduceGT, Int.reduceGE, Int.reduceEq, Int.reduceAdd, Int.reduceSub, Int.reduceMul, Nat.reduceMul, Nat.reduceSub, Nat.reduceLeDiff, f0] <;> rfl), (by simp only [go_sem, eRun_exit, Nat.reduceAdd, Nat.reduceLT, Nat.reduceEqDiff, reduceIte, reduceCtorEq, Int.reduceBEq, Int.reduceBNe, Int.reduceLT, Int.reduceLE, Int.reduceGT, Int.reduceGE, Int.reduceEq, Int.reduceAdd, Int.reduceSub, Int.reduceMul, Nat.reduceMul, Nat.reduceSub, Nat.reduceLeDiff] <;> rfl), by omega, rfl, take_ok hc hok (by simp [okc, a, b, z, d, e9, n9]), rfl⟩
              · refine WS_run 1000 (by simp only [go_sem, eRun_exit, Nat.reduceAdd, Nat.reduceLT, Nat.reduceEqDiff, reduceIte, reduceCtorEq, Int.reduceBEq, Int.reduceBNe, Int.reduceLT, Int.reduceLE, Int.reduceGT, Int.reduceGE, Int.reduceEq, Int.reduceAdd, Int.reduceSub, Int.reduceMul, Nat.reduceMul, Nat.reduceSub, Nat.reduceLeDiff, k_ref8_Name_p1, k_ref8_Name_p0, f0, f3, hlt, hc, hwr, a, b, z, d, e9, n9]; rfl) ?_
                rw [bad (by simp [okc, a, b, z, d, e9, n9])] at h
                refine WS_ret ⟨_, by simp only [go_sem, eRun_exit, Nat.reduceAdd, Nat.reduceLT, Nat.reduceEqDiff, reduceIte, reduceCtorEq, Int.reduceBEq, Int.reduceBNe, Int.reduceLT, Int.reduceLE, Int.reduceGT, Int.reduceGE, Int.reduceEq, Int.reduceAdd, Int.reduceSub, Int.reduceMul, Nat.reduceMul, Nat.reduceSub, Nat.reduceLeDiff, k_ref8_Name]; rfl, ?_⟩
                exact h
          · have n9 : c ≠ 95 := by omega
            refine WS_run 1000 (by simp only [go_sem, eRun_exit, Nat.reduceAdd, Nat.reduceLT, Nat.reduceEqDiff, reduceIte, reduceCtorEq, Int.reduceBEq, Int.reduceBNe, Int.reduceLT, Int.reduceLE, Int.reduceGT, Int.reduceGE, Int.reduceEq, Int.reduceAdd, Int.reduceSub, Int.reduceMul, Nat.reduceMul, Nat.reduceSub, Nat.reduceLeDiff, k_ref8_Name_p1, k_ref8_Name_p0, f0, f3, hlt, hc, hwr, a, b, z, d, n9]; rfl) ?_
            rw [bad (by simp [okc, a, b, z, d, n9])] at h
            refine WS_ret ⟨_, by simp only [go_sem, eRun_exit, Nat.reduceAdd, Nat.reduceLT, Nat.reduceEqDiff, reduceIte, reduceCtorEq, Int.reduceBEq, Int.reduceBNe, Int.reduceLT, Int.reduceLE, Int.reduceGT, Int.reduceGE, Int.reduceEq, Int.reduceAdd, Int.reduceSub, Int.reduceMul, Nat.reduceMul, Nat.reduceSub, Nat.reduceLeDiff, k_ref8_Name]; rfl, ?_⟩
            exact h
    · by_cases z : i = 0
      · subst z
        refine WS_run 1000 (by simp only [go_sem, eRun_exit, Nat.reduceAdd, Nat.reduceLT, Nat.reduceEqDiff, reduceIte, reduceCtorEq, Int.reduceBEq, Int.reduceBNe, Int.reduceLT, Int.reduceLE, Int.reduceGT, Int.reduceGE, Int.reduceEq, Int.reduceAdd, Int.reduceSub, Int.reduceMul, Nat.reduceMul, Nat.reduceSub, Nat.reduceLeDiff, k_ref8_Name_p1, k_ref8_Name_p0, f0, f3, hlt, hc, hwr, a]; rfl) ?_
        rw [bad (by simp [okc, a])] at h
        refine WS_ret ⟨_, by simp only [go_sem, eRun_exit, Nat.reduceAdd, Nat.reduceLT, Nat.reduceEqDiff, reduceIte, reduceCtorEq, Int.reduceBEq, Int.reduceBNe, Int.reduceLT, Int.reduceLE, Int.reduceGT, Int.reduceGE, Int.reduceEq, Int.reduceAdd, Int.reduceSub, Int.reduceMul, Nat.reduceMul, Nat.reduceSub, Nat.reduceLeDiff, k_ref8_Name]; rfl, ?_⟩
        exact h
      · by_cases d : 48 ≤ c
        · by_cases e9 : c ≤ 57
          · refine WS_run 1000 (by simp only [go_sem, eRun_exit, Nat.reduceAdd, Nat.reduceLT, Nat.reduceEqDiff, reduceIte, reduceCtorEq, Int.reduceBEq, Int.reduceBNe, Int.reduceLT, Int.reduceLE, Int.reduceGT, Int.reduceGE, Int.reduceEq, Int.reduceAdd, Int.reduceSub, Int.reduceMul, Nat.reduceMul, Nat.reduceSub, Nat.reduceLeDiff, k_ref8_Name_p1, k_ref8_Name_p0, f0, f3, hlt, hc, hwr, a, z, d, e9]; rfl) ?_
            exact ih (s.length - (i + 1)) _ _ (by omega) ⟨i + 1, (by simp only [go_sem, eRun_exit, Nat.reduceAdd, Nat.reduceLT, Nat.reduceEqDiff, reduceIte, reduceCtorEq, Int.reduceBEq, Int.reduceBNe, Int.reduceLT, Int.reduceLE, Int.reduceGT, Int.reduceGE, Int.reduceEq, Int.reduceAdd, Int.reduceSub, Int.reduceMul, Nat.reduceMul, Nat.reduceSub, Nat.reduceLeDiff, f0] <;> rfl), (by simp only [go_sem, eRun_exit, Nat.reduceAdd, Nat.reduceLT, Nat.reduceEqDiff, reduceIte, reduceCtorEq, Int.reduceBEq, Int.reduceBNe, Int.reduceLT, Int.reduceLE, Int.reduceGT, Int.reduceGE, Int.reduceEq, Int.reduceAdd, Int.reduceSub, Int.reduceMul, Nat.reduceMul, Nat.reduceSub, Nat.reduceLeDiff] <;> rfl), by omega, rfl, take_ok hc hok (by simp [okc, a, z, d, e9]), rfl⟩
          · by_cases n9 : c = 95
            · refine WS_run 1000 (by simp only [go_sem, eRun_exit, Nat.reduceAdd, Nat.reduceLT, Nat.reduceEqDiff, reduceIte, reduceCtorEq, Int.reduceBEq, Int.reduceBNe, Int.reduceLT, Int.reduceLE, Int.reduceGT, Int.reduceGE, Int.reduceEq, Int.reduceAdd, Int.reduceSub, Int.reduceMul, Nat.reduceMul, Nat.reduceSub, Nat.reduceLeDiff, k_ref8_Name_p1, k_ref8_Name_p0, f0, f3, hlt, hc, hwr, a, z, d, e9, n9]; rfl) ?_
              exact ih (s.length - (i + 1)) _ _ (by omega) ⟨i + 1, (by simp only [go_sem, eRun_exit, Nat.reduceAdd, Nat.reduceLT, Nat.reduceEqDiff, reduceIte, reduceCtorEq, Int.reduceBEq, Int.reduceBNe, Int.reduceLT, Int.reduceLE, Int.reduceGT, Int.reduceGE, Int.reduceEq, Int.reduceAdd, Int.reduceSub, Int.reduceMul, Nat.reduceMul, Nat.reduceSub, Nat.reduceLeDiff, f0] <;> rfl), (by simp only [go_sem, eRun_exit, Nat.reduceAdd, Nat.reduceLT, Nat.reduceEqDiff, reduceIte, reduceCtorEq, Int.reduceBEq, Int.reduceBNe, Int.reduceLT, Int.reduceLE, Int.reduceGT, Int.reduceGE, Int.reduceEq, Int.reduceAdd, Int.reduceSub, Int.reduceMul, Nat.reduceMul, Nat.reduceSub, Nat.reduceLeDiff] <;> rfl), by omega, rfl, take_ok hc hok (by simp [okc, a, z, d, e9, n9]), rfl⟩
            · refine WS_run 1000 (by simp only [go_sem, eRun_exit, Nat.reduceAdd, Nat.reduceLT, Nat.reduceEqDiff, reduceIte, reduceCtorEq, Int.reduceBEq, Int.reduceBNe, Int.reduceLT, Int.reduceLE, Int.reduceGT, Int.reduceGE, Int.reduceEq, Int.reduceAdd, Int.reduceSub, Int.reduceMul, Nat.reduceMul, Nat.reduceSub, Nat.reduceLeDiff, k_ref8_Name_p1, k_ref8_Name_p0, f0, f3, hlt, hc, hwr, a, z, d, e9, n9]; rfl) ?_
              rw [bad (by simp [okc, a, z, d, e9, n9])] at h
              refine WS_ret ⟨_, by simp only [go_sem, eRun_exit, Nat.reduceAdd, Nat.reduceLT, Nat.reduceEqDiff, reduceIte, reduceCtorEq, Int.reduceBEq, Int.reduceBNe, Int.reduceLT, Int.reduceLE, Int.reduceGT, Int.reduceGE, Int.reduceEq, Int.reduceAdd, Int.reduceSub, Int.reduceMul, Nat.reduceMul, Nat.reduceSub, Nat.reduceLeDiff, k_ref8_Name]; rfl, ?_⟩
              exact h
        · have n9 : c ≠ 95 := by omega
          refine WS_run 1000 (by simp only [go_sem, eRun_exit, Nat.reduceAdd, Nat.reduceLT, Nat.reduceEqDiff, reduceIte, reduceCtorEq, Int.reduceBEq, Int.reduceBNe, Int.reduceLT, Int.reduceLE, Int.reduceGT, Int.reduceGE, Int.reduceEq, Int.reduceAdd, Int.reduceSub, Int.reduceMul, Nat.reduceMul, Nat.reduceSub, Nat.reduceLeDiff, k_ref8_Name_p1, k_ref8_Name_p0, f0, f3, hlt, hc, hwr, a, z, d, n9]; rfl) ?_
          rw [bad (by simp [okc, a, z, d, n9])] at h
          refine WS_ret ⟨_, by simp only [go_sem, eRun_exit, Nat.reduceAdd, Nat.reduceLT, Nat.reduceEqDiff, reduceIte, reduceCtorEq, Int.reduceBEq, Int.reduceBNe, Int.reduceLT, Int.reduceLE, Int.reduceGT, Int.reduceGE, Int.reduceEq, Int.reduceAdd, Int.reduceSub, Int.reduceMul, Nat.reduceMul, Nat.reduceSub, Nat.reduceLeDiff, k_ref8_Name]; rfl, ?_⟩
          exact h
  · rintro f w ⟨f0, hok, rfl⟩
    cases s with
    | nil =>
      refine WS_run 1000 (by simp only [go_sem, eRun_exit, Nat.reduceAdd, Nat.reduceLT, Nat.reduceEqDiff, reduceIte, reduceCtorEq, Int.reduceBEq, Int.reduceBNe, Int.reduceLT, Int.reduceLE, Int.reduceGT, Int.reduceGE, Int.reduceEq, Int.reduceAdd, Int.reduceSub, Int.reduceMul, Nat.reduceMul, Nat.reduceSub, Nat.reduceLeDiff, f0]; rfl) ?_
      refine WS_ret ⟨_, by simp only [go_sem, eRun_exit, Nat.reduceAdd, Nat.reduceLT, Nat.reduceEqDiff, reduceIte, reduceCtorEq, Int.reduceBEq, Int.reduceBNe, Int.reduceLT, Int.reduceLE, Int.reduceGT, Int.reduceGE, Int.reduceEq, Int.reduceAdd, Int.reduceSub, Int.reduceMul, Nat.reduceMul, Nat.reduceSub, Nat.reduceLeDiff, k_ref8_Name]; rfl, ?_⟩
      exact h
    | cons x t =>
      refine WS_run 1000 (by simp only [go_sem, eRun_exit, Nat.reduceAdd, Nat.reduceLT, Nat.reduceEqDiff, reduceIte, reduceCtorEq, Int.reduceBEq, Int.reduceBNe, Int.reduceLT, Int.reduceLE, Int.reduceGT, Int.reduceGE, Int.reduceEq, Int.reduceAdd, Int.reduceSub, Int.reduceMul, Nat.reduceMul, Nat.reduceSub, Nat.reduceLeDiff, f0]; rfl) ?_
      refine WS_ret ⟨_, by simp only [go_sem, eRun_exit, Nat.reduceAdd, Nat.reduceLT, Nat.reduceEqDiff, reduceIte, reduceCtorEq, Int.reduceBEq, Int.reduceBNe, Int.reduceLT, Int.reduceLE, Int.reduceGT, Int.reduceGE, Int.reduceEq, Int.reduceAdd, Int.reduceSub, Int.reduceMul, Nat.reduceMul, Nat.reduceSub, Nat.reduceLeDiff, k_ref8_Name]; rfl, ?_⟩
      rw [show wordB (x :: t) = decide ((x :: t).length ≤ 16) by simp [wordB, hok]] at h
      exact h
end Go.Proofs.YtjidefnbancmfaaDoor

/- Constants: which terms may be. -/
set_option linter.unusedVariables false
set_option maxRecDepth 10000
set_option linter.unusedSimpArgs false
namespace Go.Proofs.YtjidefnbancmfaaDoor
open Go.AE Delphi
variable {tab : Tab}
def tkC (t : Tk) : List V := [.int .i64 t.k, .str t.s, .int .i64 t.n]
structure TkOk (t : Tk) : Prop where
  len : t.s.length ≤ 1000000
  byt : ∀ c ∈ t.s, c < 256
theorem box1 (aw : AW) (l : List V) : ∃ w, aw.fresh l = w ∧ CB w aw.next l ∧ Frm (fun _ => False) aw w ∧ w.next = aw.next + 1 :=
  ⟨_, rfl, fresh_cb aw l, fresh_frm aw l, rfl⟩
theorem CB.ld {w : AW} {b : Nat} {l : List V} (c : CB w b l) (o n : Nat) (r : List V) (h : takeN n (l.drop o) = some r) : w.load b o n = some r := by rw [c.load]; exact h
theorem may_ok (C : Codes tab) {t : Tk} {aw : AW} {K : V → AW → Prop} (ht : TkOk t) (h : ∀ w, Frm (fun _ => False) aw w → K (.bool (tkMay t)) w) : WF tab n_value_May [.agg (tkC t)] aw K := by
  refine WF_of C.c_value_May rfl ?_
  obtain ⟨k, s, n⟩ := t
  obtain ⟨w1, e1, c1, r1, m1⟩ := box1 aw [.int .i64 k, .str s, .int .i64 n]
  have l0 := CB.ld c1 0 1 _ rfl
  have l1 := CB.ld c1 1 1 _ rfl
  have l2 := CB.ld c1 2 1 _ rfl
  have h := h w1 r1
  by_cases k3 : k = 3
  · subst k3
    cases s with
    | cons x z =>
      refine WS_run 1000 (by simp only [go_sem, eRun_exit, Nat.reduceAdd, Nat.reduceLT, Nat.reduceEqDiff, reduceIte, reduceCtorEq, Int.reduceBEq, Int.reduceBNe, Int.reduceLT, Int.reduceLE, Int.reduceGT, Int.reduceGE, Int.reduceEq, Int.reduceAdd, Int.reduceSub, Int.reduceMul, Nat.reduceMul, Nat.reduceSub, Nat.reduceLeDiff, k_value_May, k_value_May_p2, k_value_May_p1, tkC, e1, l0, l1, l2]; rfl) ?_
      refine WS_ret ⟨_, by simp only [go_sem, eRun_exit, Nat.reduceAdd, Nat.reduceLT, Nat.reduceEqDiff, reduceIte, reduceCtorEq, Int.reduceBEq, Int.reduceBNe, Int.reduceLT, Int.reduceLE, Int.reduceGT, Int.reduceGE, Int.reduceEq, Int.reduceAdd, Int.reduceSub, Int.reduceMul, Nat.reduceMul, Nat.reduceSub, Nat.reduceLeDiff, k_value_May]; rfl, ?_⟩
      exact h
    | nil =>
      have hs : strS BinOp.eql [] [] = some (.bool true) := rfl
      by_cases a : -2147483648 ≤ n
      · by_cases b : n ≤ 2147483648
        · rw [show tkMay ⟨3, [], n⟩ = true by simp [tkMay, a, b]] at h
          refine WS_run 1000 (by simp only [go_sem, eRun_exit, Nat.reduceAdd, Nat.reduceLT, Nat.reduceEqDiff, reduceIte, reduceCtorEq, Int.reduceBEq, Int.reduceBNe, Int.reduceLT, Int.reduceLE, Int.reduceGT, Int.reduceGE, Int.reduceEq, Int.reduceAdd, Int.reduceSub, Int.reduceMul, Nat.reduceMul, Nat.reduceSub, Nat.reduceLeDiff, k_value_May, k_value_May_p2, k_value_May_p1, tkC, e1, l0, l1, l2, hs, a, b]; rfl) ?_
          refine WS_ret ⟨_, by simp only [go_sem, eRun_exit, Nat.reduceAdd, Nat.reduceLT, Nat.reduceEqDiff, reduceIte, reduceCtorEq, Int.reduceBEq, Int.reduceBNe, Int.reduceLT, Int.reduceLE, Int.reduceGT, Int.reduceGE, Int.reduceEq, Int.reduceAdd, Int.reduceSub, Int.reduceMul, Nat.reduceMul, Nat.reduceSub, Nat.reduceLeDiff, k_value_May]; rfl, ?_⟩
          exact h
        · rw [show tkMay ⟨3, [], n⟩ = false by simp [tkMay, a, b]] at h
          refine WS_run 1000 (by simp only [go_sem, eRun_exit, Nat.reduceAdd, Nat.reduceLT, Nat.reduceEqDiff, reduceIte, reduceCtorEq, Int.reduceBEq, Int.reduceBNe, Int.reduceLT, Int.reduceLE, Int.reduceGT, Int.reduceGE, Int.reduceEq, Int.reduceAdd, Int.reduceSub, Int.reduceMul, Nat.reduceMul, Nat.reduceSub, Nat.reduceLeDiff, k_value_May, k_value_May_p2, k_value_May_p1, tkC, e1, l0, l1, l2, hs, a, b]; rfl) ?_
          refine WS_ret ⟨_, by simp only [go_sem, eRun_exit, Nat.reduceAdd, Nat.reduceLT, Nat.reduceEqDiff, reduceIte, reduceCtorEq, Int.reduceBEq, Int.reduceBNe, Int.reduceLT, Int.reduceLE, Int.reduceGT, Int.reduceGE, Int.reduceEq, Int.reduceAdd, Int.reduceSub, Int.reduceMul, Nat.reduceMul, Nat.reduceSub, Nat.reduceLeDiff, k_value_May]; rfl, ?_⟩
          exact h
      · rw [show tkMay ⟨3, [], n⟩ = false by simp [tkMay, a]] at h
        refine WS_run 1000 (by simp only [go_sem, eRun_exit, Nat.reduceAdd, Nat.reduceLT, Nat.reduceEqDiff, reduceIte, reduceCtorEq, Int.reduceBEq, Int.reduceBNe, Int.reduceLT, Int.reduceLE, Int.reduceGT, Int.reduceGE, Int.reduceEq, Int.reduceAdd, Int.reduceSub, Int.reduceMul, Nat.reduceMul, Nat.reduceSub, Nat.reduceLeDiff, k_value_May, k_value_May_p2, k_value_May_p1, tkC, e1, l0, l1, l2, hs, a]; rfl) ?_
        refine WS_ret ⟨_, by simp only [go_sem, eRun_exit, Nat.reduceAdd, Nat.reduceLT, Nat.reduceEqDiff, reduceIte, reduceCtorEq, Int.reduceBEq, Int.reduceBNe, Int.reduceLT, Int.reduceLE, Int.reduceGT, Int.reduceGE, Int.reduceEq, Int.reduceAdd, Int.reduceSub, Int.reduceMul, Nat.reduceMul, Nat.reduceSub, Nat.reduceLeDiff, k_value_May]; rfl, ?_⟩
        exact h
  · by_cases k2 : k = 2
    · subst k2
      by_cases z : n = 0
      · subst z
        rw [show tkMay ⟨2, s, 0⟩ = wordB s by simp [tkMay]] at h
        refine WS_run 1000 (by simp only [go_sem, eRun_exit, Nat.reduceAdd, Nat.reduceLT, Nat.reduceEqDiff, reduceIte, reduceCtorEq, Int.reduceBEq, Int.reduceBNe, Int.reduceLT, Int.reduceLE, Int.reduceGT, Int.reduceGE, Int.reduceEq, Int.reduceAdd, Int.reduceSub, Int.reduceMul, Nat.reduceMul, Nat.reduceSub, Nat.reduceLeDiff, k_value_May, k_value_May_p2, k_value_May_p0, tkC, e1, l0, l1, l2]; rfl) ?_
        refine WS_call (by simp only [go_sem, eRun_exit, Nat.reduceAdd, Nat.reduceLT, Nat.reduceEqDiff, reduceIte, reduceCtorEq, Int.reduceBEq, Int.reduceBNe, Int.reduceLT, Int.reduceLE, Int.reduceGT, Int.reduceGE, Int.reduceEq, Int.reduceAdd, Int.reduceSub, Int.reduceMul, Nat.reduceMul, Nat.reduceSub, Nat.reduceLeDiff]) (by simp only [go_sem, eRun_exit, Nat.reduceAdd, Nat.reduceLT, Nat.reduceEqDiff, reduceIte, reduceCtorEq, Int.reduceBEq, Int.reduceBNe, Int.reduceLT, Int.reduceLE, Int.reduceGT, Int.reduceGE, Int.reduceEq, Int.reduceAdd, Int.reduceSub, Int.reduceMul, Nat.reduceMul, Nat.reduceSub, Nat.reduceLeDiff]; rfl) ?_
        refine word_ok C ht.len ht.byt ?_
        refine WS_run 1000 (by simp only [go_sem, eRun_exit, Nat.reduceAdd, Nat.reduceLT, Nat.reduceEqDiff, reduceIte, reduceCtorEq, Int.reduceBEq, Int.reduceBNe, Int.reduceLT, Int.reduceLE, Int.reduceGT, Int.reduceGE, Int.reduceEq, Int.reduceAdd, Int.reduceSub, Int.reduceMul, Nat.reduceMul, Nat.reduceSub, Nat.reduceLeDiff]; rfl) ?_
        refine WS_ret ⟨_, by simp only [go_sem, eRun_exit, Nat.reduceAdd, Nat.reduceLT, Nat.reduceEqDiff, reduceIte, reduceCtorEq, Int.reduceBEq, Int.reduceBNe, Int.reduceLT, Int.reduceLE, Int.reduceGT, Int.reduceGE, Int.reduceEq, Int.reduceAdd, Int.reduceSub, Int.reduceMul, Nat.reduceMul, Nat.reduceSub, Nat.reduceLeDiff, k_value_May]; rfl, ?_⟩
        exact h
      · rw [show tkMay ⟨2, s, n⟩ = false by simp [tkMay, z]] at h
        have z' : (n == 0) = false := by simpa using z
        refine WS_run 1000 (by simp only [go_sem, eRun_exit, Nat.reduceAdd, Nat.reduceLT, Nat.reduceEqDiff, reduceIte, reduceCtorEq, Int.reduceBEq, Int.reduceBNe, Int.reduceLT, Int.reduceLE, Int.reduceGT, Int.reduceGE, Int.reduceEq, Int.reduceAdd, Int.reduceSub, Int.reduceMul, Nat.reduceMul, Nat.reduceSub, Nat.reduceLeDiff, k_value_May, k_value_May_p2, k_value_May_p0, tkC, e1, l0, l1, l2, z']; rfl) ?_
        refine WS_ret ⟨_, by simp only [go_sem, eRun_exit, Nat.reduceAdd, Nat.reduceLT, Nat.reduceEqDiff, reduceIte, reduceCtorEq, Int.reduceBEq, Int.reduceBNe, Int.reduceLT, Int.reduceLE, Int.reduceGT, Int.reduceGE, Int.reduceEq, Int.reduceAdd, Int.reduceSub, Int.reduceMul, Nat.reduceMul, Nat.reduceSub, Nat.reduceLeDiff, k_value_May]; rfl, ?_⟩
        exact h
    · rw [show tkMay ⟨k, s, n⟩ = false by simp [tkMay, k3, k2]] at h
      have k3' : (k == 3) = false := by simpa using k3
      have k2' : (k == 2) = false := by simpa using k2
      refine WS_run 1000 (by simp only [go_sem, eRun_exit, Nat.reduceAdd, Nat.reduceLT, Nat.reduceEqDiff, reduceIte, reduceCtorEq, Int.reduceBEq, Int.reduceBNe, Int.reduceLT, Int.reduceLE, Int.reduceGT, Int.reduceGE, Int.reduceEq, Int.reduceAdd, Int.reduceSub, Int.reduceMul, Nat.reduceMul, Nat.reduceSub, Nat.reduceLeDiff, k_value_May, k_value_May_p2, tkC, e1, l0, l1, l2, k3', k2']; rfl) ?_
      refine WS_ret ⟨_, by simp only [go_sem, eRun_exit, Nat.reduceAdd, Nat.reduceLT, Nat.reduceEqDiff, reduceIte, reduceCtorEq, Int.reduceBEq, Int.reduceBNe, Int.reduceLT, Int.reduceLE, Int.reduceGT, Int.reduceGE, Int.reduceEq, Int.reduceAdd, Int.reduceSub, Int.reduceMul, Nat.reduceMul, Nat.reduceSub, Nat.reduceLeDiff, k_value_May]; rfl, ?_⟩
      exact h
theorem mayTerm_ok (C : Codes tab) {t : Tk} {aw : AW} {K : V → AW → Prop} (ht : TkOk t) (h : ∀ w, Frm (fun _ => False) aw w → K (.bool (tkMay t)) w) : WF tab n_ref8_MayTerm [.agg (tkC t)] aw K := by
  refine WF_of C.c_ref8_MayTerm rfl ?_
  obtain ⟨k, s, n⟩ := t
  obtain ⟨w1, e1, c1, r1, m1⟩ := box1 aw [.int .i64 k, .str s, .int .i64 n]
  have l0 := CB.ld c1 0 1 _ rfl
  have l1 := CB.ld c1 1 1 _ rfl
  have l2 := CB.ld c1 2 1 _ rfl
  have h := h w1 r1
  by_cases k3 : k = 3
  · subst k3
    cases s with
    | cons x z =>
      refine WS_run 1000 (by simp only [go_sem, eRun_exit, Nat.reduceAdd, Nat.reduceLT, Nat.reduceEqDiff, reduceIte, reduceCtorEq, Int.reduceBEq, Int.reduceBNe, Int.reduceLT, Int.reduceLE, Int.reduceGT, Int.reduceGE, Int.reduceEq, Int.reduceAdd, Int.reduceSub, Int.reduceMul, Nat.reduceMul, Nat.reduceSub, Nat.reduceLeDiff, k_ref8_MayTerm, k_ref8_MayTerm_p2, k_ref8_MayTerm_p1, tkC, e1, l0, l1, l2]; rfl) ?_
      refine WS_ret ⟨_, by simp only [go_sem, eRun_exit, Nat.reduceAdd, Nat.reduceLT, Nat.reduceEqDiff, reduceIte, reduceCtorEq, Int.reduceBEq, Int.reduceBNe, Int.reduceLT, Int.reduceLE, Int.reduceGT, Int.reduceGE, Int.reduceEq, Int.reduceAdd, Int.reduceSub, Int.reduceMul, Nat.reduceMul, Nat.reduceSub, Nat.reduceLeDiff, k_ref8_MayTerm]; rfl, ?_⟩
      exact h
    | nil =>
      have hs : strS BinOp.eql [] [] = some (.bool true) := rfl
      by_cases a : -2147483648 ≤ n
      · by_cases b : n ≤ 2147483648
        · rw [show tkMay ⟨3, [], n⟩ = true by simp [tkMay, a, b]] at h
          refine WS_run 1000 (by simp only [go_sem, eRun_exit, Nat.reduceAdd, Nat.reduceLT, Nat.reduceEqDiff, reduceIte, reduceCtorEq, Int.reduceBEq, Int.reduceBNe, Int.reduceLT, Int.reduceLE, Int.reduceGT, Int.reduceGE, Int.reduceEq, Int.reduceAdd, Int.reduceSub, Int.reduceMul, Nat.reduceMul, Nat.reduceSub, Nat.reduceLeDiff, k_ref8_MayTerm, k_ref8_MayTerm_p2, k_ref8_MayTerm_p1, tkC, e1, l0, l1, l2, hs, a, b]; rfl) ?_
          refine WS_ret ⟨_, by simp only [go_sem, eRun_exit, Nat.reduceAdd, Nat.reduceLT, Nat.reduceEqDiff, reduceIte, reduceCtorEq, Int.reduceBEq, Int.reduceBNe, Int.reduceLT, Int.reduceLE, Int.reduceGT, Int.reduceGE, Int.reduceEq, Int.reduceAdd, Int.reduceSub, Int.reduceMul, Nat.reduceMul, Nat.reduceSub, Nat.reduceLeDiff, k_ref8_MayTerm]; rfl, ?_⟩
          exact h
        · rw [show tkMay ⟨3, [], n⟩ = false by simp [tkMay, a, b]] at h
          refine WS_run 1000 (by simp only [go_sem, eRun_exit, Nat.reduceAdd, Nat.reduceLT, Nat.reduceEqDiff, reduceIte, reduceCtorEq, Int.reduceBEq, Int.reduceBNe, Int.reduceLT, Int.reduceLE, Int.reduceGT, Int.reduceGE, Int.reduceEq, Int.reduceAdd, Int.reduceSub, Int.reduceMul, Nat.reduceMul, Nat.reduceSub, Nat.reduceLeDiff, k_ref8_MayTerm, k_ref8_MayTerm_p2, k_ref8_MayTerm_p1, tkC, e1, l0, l1, l2, hs, a, b]; rfl) ?_
          refine WS_ret ⟨_, by simp only [go_sem, eRun_exit, Nat.reduceAdd, Nat.reduceLT, Nat.reduceEqDiff, reduceIte, reduceCtorEq, Int.reduceBEq, Int.reduceBNe, Int.reduceLT, Int.reduceLE, Int.reduceGT, Int.reduceGE, Int.reduceEq, Int.reduceAdd, Int.reduceSub, Int.reduceMul, Nat.reduceMul, Nat.reduceSub, Nat.reduceLeDiff, k_ref8_MayTerm]; rfl, ?_⟩
          exact h
      · rw [show tkMay ⟨3, [], n⟩ = false by simp [tkMay, a]] at h
        refine WS_run 1000 (by simp only [go_sem, eRun_exit, Nat.reduceAdd, Nat.reduceLT, Nat.reduceEqDiff, reduceIte, reduceCtorEq, Int.reduceBEq, Int.reduceBNe, Int.reduceLT, Int.reduceLE, Int.reduceGT, Int.reduceGE, Int.reduceEq, Int.reduceAdd, Int.reduceSub, Int.reduceMul, Nat.reduceMul, Nat.reduceSub, Nat.reduceLeDiff, k_ref8_MayTerm, k_ref8_MayTerm_p2, k_ref8_MayTerm_p1, tkC, e1, l0, l1, l2, hs, a]; rfl) ?_
        refine WS_ret ⟨_, by simp only [go_sem, eRun_exit, Nat.reduceAdd, Nat.reduceLT, Nat.reduceEqDiff, reduceIte, reduceCtorEq, Int.reduceBEq, Int.reduceBNe, Int.reduceLT, Int.reduceLE, Int.reduceGT, Int.reduceGE, Int.reduceEq, Int.reduceAdd, Int.reduceSub, Int.reduceMul, Nat.reduceMul, Nat.reduceSub, Nat.reduceLeDiff, k_ref8_MayTerm]; rfl, ?_⟩
        exact h
  · by_cases k2 : k = 2
    · subst k2
      by_cases z : n = 0
      · subst z
        rw [show tkMay ⟨2, s, 0⟩ = wordB s by simp [tkMay]] at h
        refine WS_run 1000 (by simp only [go_sem, eRun_exit, Nat.reduceAdd, Nat.reduceLT, Nat.reduceEqDiff, reduceIte, reduceCtorEq, Int.reduceBEq, Int.reduceBNe, Int.reduceLT, Int.reduceLE, Int.reduceGT, Int.reduceGE, Int.reduceEq, Int.reduceAdd, Int.reduceSub, Int.reduceMul, Nat.reduceMul, Nat.reduceSub, Nat.reduceLeDiff, k_ref8_MayTerm, k_ref8_MayTerm_p2, k_ref8_MayTerm_p0, tkC, e1, l0, l1, l2]; rfl) ?_
        refine WS_call (by simp only [go_sem, eRun_exit, Nat.reduceAdd, Nat.reduceLT, Nat.reduceEqDiff, reduceIte, reduceCtorEq, Int.reduceBEq, Int.reduceBNe, Int.reduceLT, Int.reduceLE, Int.reduceGT, Int.reduceGE, Int.reduceEq, Int.reduceAdd, Int.reduceSub, Int.reduceMul, Nat.reduceMul, Nat.reduceSub, Nat.reduceLeDiff]) (by simp only [go_sem, eRun_exit, Nat.reduceAdd, Nat.reduceLT, Nat.reduceEqDiff, reduceIte, reduceCtorEq, Int.reduceBEq, Int.reduceBNe, Int.reduceLT, Int.reduceLE, Int.reduceGT, Int.reduceGE, Int.reduceEq, Int.reduceAdd, Int.reduceSub, Int.reduceMul, Nat.reduceMul, Nat.reduceSub, Nat.reduceLeDiff]; rfl) ?_
        refine name_ok C ht.len ht.byt ?_
        refine WS_run 1000 (by simp only [go_sem, eRun_exit, Nat.reduceAdd, Nat.reduceLT, Nat.reduceEqDiff, reduceIte, reduceCtorEq, Int.reduceBEq, Int.reduceBNe, Int.reduceLT, Int.reduceLE, Int.reduceGT, Int.reduceGE, Int.reduceEq, Int.reduceAdd, Int.reduceSub, Int.reduceMul, Nat.reduceMul, Nat.reduceSub, Nat.reduceLeDiff]; rfl) ?_
        refine WS_ret ⟨_, by simp only [go_sem, eRun_exit, Nat.reduceAdd, Nat.reduceLT, Nat.reduceEqDiff, reduceIte, reduceCtorEq, Int.reduceBEq, Int.reduceBNe, Int.reduceLT, Int.reduceLE, Int.reduceGT, Int.reduceGE, Int.reduceEq, Int.reduceAdd, Int.reduceSub, Int.reduceMul, Nat.reduceMul, Nat.reduceSub, Nat.reduceLeDiff, k_ref8_MayTerm]; rfl, ?_⟩
        exact h
      · rw [show tkMay ⟨2, s, n⟩ = false by simp [tkMay, z]] at h
        have z' : (n == 0) = false := by simpa using z
        refine WS_run 1000 (by simp only [go_sem, eRun_exit, Nat.reduceAdd, Nat.reduceLT, Nat.reduceEqDiff, reduceIte, reduceCtorEq, Int.reduceBEq, Int.reduceBNe, Int.reduceLT, Int.reduceLE, Int.reduceGT, Int.reduceGE, Int.reduceEq, Int.reduceAdd, Int.reduceSub, Int.reduceMul, Nat.reduceMul, Nat.reduceSub, Nat.reduceLeDiff, k_ref8_MayTerm, k_ref8_MayTerm_p2, k_ref8_MayTerm_p0, tkC, e1, l0, l1, l2, z']; rfl) ?_
        refine WS_ret ⟨_, by simp only [go_sem, eRun_exit, Nat.reduceAdd, Nat.reduceLT, Nat.reduceEqDiff, reduceIte, reduceCtorEq, Int.reduceBEq, Int.reduceBNe, Int.reduceLT, Int.reduceLE, Int.reduceGT, Int.reduceGE, Int.reduceEq, Int.reduceAdd, Int.reduceSub, Int.reduceMul, Nat.reduceMul, Nat.reduceSub, Nat.reduceLeDiff, k_ref8_MayTerm]; rfl, ?_⟩
        exact h
    · rw [show tkMay ⟨k, s, n⟩ = false by simp [tkMay, k3, k2]] at h
      have k3' : (k == 3) = false := by simpa using k3
      have k2' : (k == 2) = false := by simpa using k2
      refine WS_run 1000 (by simp only [go_sem, eRun_exit, Nat.reduceAdd, Nat.reduceLT, Nat.reduceEqDiff, reduceIte, reduceCtorEq, Int.reduceBEq, Int.reduceBNe, Int.reduceLT, Int.reduceLE, Int.reduceGT, Int.reduceGE, Int.reduceEq, Int.reduceAdd, Int.reduceSub, Int.reduceMul, Nat.reduceMul, Nat.reduceSub, Nat.reduceLeDiff, k_ref8_MayTerm, k_ref8_MayTerm_p2, tkC, e1, l0, l1, l2, k3', k2']; rfl) ?_
      refine WS_ret ⟨_, by simp only [go_sem, eRun_exit, Nat.reduceAdd, Nat.reduceLT, Nat.reduceEqDiff, reduceIte, reduceCtorEq, Int.reduceBEq, Int.reduceBNe, Int.reduceLT, Int.reduceLE, Int.reduceGT, Int.reduceGE, Int.reduceEq, Int.reduceAdd, Int.reduceSub, Int.reduceMul, Nat.reduceMul, Nat.reduceSub, Nat.reduceLeDiff, k_ref8_MayTerm]; rfl, ?_⟩
      exact h
end Go.Proofs.YtjidefnbancmfaaDoor

/- Constants: order, sameness, cutting. -/
set_option linter.unusedVariables false
set_option maxRecDepth 10000
set_option linter.unusedSimpArgs false
namespace Go.Proofs.YtjidefnbancmfaaDoor
open Go.AE Delphi
variable {tab : Tab}
def tkSame (a b : Tk) : Bool := (a.k == b.k) && (eqL a.s b.s && (a.n == b.n))
theorem box2 (aw : AW) (l l' : List V) : ∃ w, (aw.fresh l).fresh l' = w ∧ CB w aw.next l ∧ CB w (aw.next + 1) l' ∧ Frm (fun _ => False) aw w ∧ w.next = aw.next + 2 := by
  have f1 := fresh_frm (S := fun _ => False) aw l
  have f2 := fresh_frm (S := fun _ => False) (aw.fresh l) l'
  have n1 : (aw.fresh l).next = aw.next + 1 := rfl
  refine ⟨_, rfl, (fresh_cb aw l).frm f2 (fun h => h), ?_, f1.tr f2, rfl⟩
  have := fresh_cb (aw.fresh l) l'
  rwa [n1] at this
theorem rEq_ok (C : Codes tab) {a b : Tk} {aw : AW} {K : V → AW → Prop} (h : ∀ w, Frm (fun _ => False) aw w → K (.bool (tkSame a b)) w) : WF tab n_ref8_Eq [.agg (tkC a), .agg (tkC b)] aw K := by
  refine WF_of C.c_ref8_Eq rfl ?_
  obtain ⟨k, s, n⟩ := a
  obtain ⟨k', s', n'⟩ := b
  obtain ⟨w1, e1, c1, c2, r1, m1⟩ := box2 aw [.int .i64 k, .str s, .int .i64 n] [.int .i64 k', .str s', .int .i64 n']
  have l0 := CB.ld c1 0 1 _ rfl
  have l1 := CB.ld c1 1 1 _ rfl
  have l2 := CB.ld c1 2 1 _ rfl
  have q0 := CB.ld c2 0 1 _ rfl
  have q1 := CB.ld c2 1 1 _ rfl
  have q2 := CB.ld c2 2 1 _ rfl
  have h := h w1 r1
  have nn : ∀ l, (aw.fresh l).next = aw.next + 1 := fun _ => rfl
  cases h1 : (k == k') with
  | false =>
    rw [show tkSame ⟨k, s, n⟩ ⟨k', s', n'⟩ = false by simp only [tkSame, h1, Bool.false_and]] at h
    refine WS_run 1000 (by simp only [go_sem, eRun_exit, Nat.reduceAdd, Nat.reduceLT, Nat.reduceEqDiff, reduceIte, reduceCtorEq, Int.reduceBEq, Int.reduceBNe, Int.reduceLT, Int.reduceLE, Int.reduceGT, Int.reduceGE, Int.reduceEq, Int.reduceAdd, Int.reduceSub, Int.reduceMul, Nat.reduceMul, Nat.reduceSub, Nat.reduceLeDiff, k_ref8_Eq, tkC, nn, e1, l0, l1, l2, q0, q1, q2, h1]; rfl) ?_
    refine WS_ret ⟨_, by simp only [go_sem, eRun_exit, Nat.reduceAdd, Nat.reduceLT, Nat.reduceEqDiff, reduceIte, reduceCtorEq, Int.reduceBEq, Int.reduceBNe, Int.reduceLT, Int.reduceLE, Int.reduceGT, Int.reduceGE, Int.reduceEq, Int.reduceAdd, Int.reduceSub, Int.reduceMul, Nat.reduceMul, Nat.reduceSub, Nat.reduceLeDiff, k_ref8_Eq]; rfl, ?_⟩
    exact h
  | true =>
    cases h2 : eqL s s' with
    | false =>
      rw [show tkSame ⟨k, s, n⟩ ⟨k', s', n'⟩ = false by simp only [tkSame, h1, h2, Bool.false_and, Bool.and_false]] at h
      refine WS_run 1000 (by simp only [go_sem, eRun_exit, Nat.reduceAdd, Nat.reduceLT, Nat.reduceEqDiff, reduceIte, reduceCtorEq, Int.reduceBEq, Int.reduceBNe, Int.reduceLT, Int.reduceLE, Int.reduceGT, Int.reduceGE, Int.reduceEq, Int.reduceAdd, Int.reduceSub, Int.reduceMul, Nat.reduceMul, Nat.reduceSub, Nat.reduceLeDiff, k_ref8_Eq, tkC, nn, e1, l0, l1, l2, q0, q1, q2, h1, strS, h2]; rfl) ?_
      refine WS_ret ⟨_, by simp only [go_sem, eRun_exit, Nat.reduceAdd, Nat.reduceLT, Nat.reduceEqDiff, reduceIte, reduceCtorEq, Int.reduceBEq, Int.reduceBNe, Int.reduceLT, Int.reduceLE, Int.reduceGT, Int.reduceGE, Int.reduceEq, Int.reduceAdd, Int.reduceSub, Int.reduceMul, Nat.reduceMul, Nat.reduceSub, Nat.reduceLeDiff, k_ref8_Eq]; rfl, ?_⟩
      exact h
    | true =>
      rw [show tkSame ⟨k, s, n⟩ ⟨k', s', n'⟩ = (n == n') by simp only [tkSame, h1, h2, Bool.true_and]] at h
      refine WS_run 1000 (by simp only [go_sem, eRun_exit, Nat.reduceAdd, Nat.reduceLT, Nat.reduceEqDiff, reduceIte, reduceCtorEq, Int.reduceBEq, Int.reduceBNe, Int.reduceLT, Int.reduceLE, Int.reduceGT, Int.reduceGE, Int.reduceEq, Int.reduceAdd, Int.reduceSub, Int.reduceMul, Nat.reduceMul, Nat.reduceSub, Nat.reduceLeDiff, k_ref8_Eq, tkC, nn, e1, l0, l1, l2, q0, q1, q2, h1, strS, h2]; rfl) ?_
      refine WS_ret ⟨_, by simp only [go_sem, eRun_exit, Nat.reduceAdd, Nat.reduceLT, Nat.reduceEqDiff, reduceIte, reduceCtorEq, Int.reduceBEq, Int.reduceBNe, Int.reduceLT, Int.reduceLE, Int.reduceGT, Int.reduceGE, Int.reduceEq, Int.reduceAdd, Int.reduceSub, Int.reduceMul, Nat.reduceMul, Nat.reduceSub, Nat.reduceLeDiff, k_ref8_Eq]; rfl, ?_⟩
      exact h
def tkCut (t : Tk) : Tk := ⟨t.k, t.s.take 20, t.n⟩
theorem cut_ok (C : Codes tab) {s : List Nat} {aw : AW} {K : V → AW → Prop} (h : K (.str (s.take 20)) aw) : WF tab n_law1_Cut [.str s, .int .i64 20] aw K := by
  refine WF_of C.c_law1_Cut rfl ?_
  by_cases hl : 20 < s.length
  · have hl' : 20 ≤ s.length := by omega
    refine WS_run 1000 (by simp only [go_sem, eRun_exit, Nat.reduceAdd, Nat.reduceLT, Nat.reduceEqDiff, reduceIte, reduceCtorEq, Int.reduceBEq, Int.reduceBNe, Int.reduceLT, Int.reduceLE, Int.reduceGT, Int.reduceGE, Int.reduceEq, Int.reduceAdd, Int.reduceSub, Int.reduceMul, Nat.reduceMul, Nat.reduceSub, Nat.reduceLeDiff, k_law1_Cut, hl, hl']; rfl) ?_
    refine WS_ret ⟨_, by simp only [go_sem, eRun_exit, Nat.reduceAdd, Nat.reduceLT, Nat.reduceEqDiff, reduceIte, reduceCtorEq, Int.reduceBEq, Int.reduceBNe, Int.reduceLT, Int.reduceLE, Int.reduceGT, Int.reduceGE, Int.reduceEq, Int.reduceAdd, Int.reduceSub, Int.reduceMul, Nat.reduceMul, Nat.reduceSub, Nat.reduceLeDiff, k_law1_Cut]; rfl, ?_⟩
    exact h
  · rw [List.take_of_length_le (by omega)] at h
    refine WS_run 1000 (by simp only [go_sem, eRun_exit, Nat.reduceAdd, Nat.reduceLT, Nat.reduceEqDiff, reduceIte, reduceCtorEq, Int.reduceBEq, Int.reduceBNe, Int.reduceLT, Int.reduceLE, Int.reduceGT, Int.reduceGE, Int.reduceEq, Int.reduceAdd, Int.reduceSub, Int.reduceMul, Nat.reduceMul, Nat.reduceSub, Nat.reduceLeDiff, k_law1_Cut, hl]; rfl) ?_
    refine WS_ret ⟨_, by simp only [go_sem, eRun_exit, Nat.reduceAdd, Nat.reduceLT, Nat.reduceEqDiff, reduceIte, reduceCtorEq, Int.reduceBEq, Int.reduceBNe, Int.reduceLT, Int.reduceLE, Int.reduceGT, Int.reduceGE, Int.reduceEq, Int.reduceAdd, Int.reduceSub, Int.reduceMul, Nat.reduceMul, Nat.reduceSub, Nat.reduceLeDiff, k_law1_Cut]; rfl, ?_⟩
    exact h
theorem cutT_ok (C : Codes tab) {t : Tk} {aw : AW} {K : V → AW → Prop} (h : ∀ w, Frm (fun _ => False) aw w → K (.agg (tkC (tkCut t))) w) : WF tab n_law6_Cut [.agg (tkC t)] aw K := by
  refine WF_of C.c_law6_Cut rfl ?_
  obtain ⟨k, s, n⟩ := t
  obtain ⟨w1, e1, c1, c2, r1, m1⟩ := box2 aw [.int .i64 k, .str s, .int .i64 n] [.int .i64 0, .str [], .int .i64 0]
  have l1 := CB.ld c1 1 1 _ rfl
  have nn : ∀ l, (aw.fresh l).next = aw.next + 1 := fun _ => rfl
  refine WS_run 1000 (by simp only [go_sem, eRun_exit, Nat.reduceAdd, Nat.reduceLT, Nat.reduceEqDiff, reduceIte, reduceCtorEq, Int.reduceBEq, Int.reduceBNe, Int.reduceLT, Int.reduceLE, Int.reduceGT, Int.reduceGE, Int.reduceEq, Int.reduceAdd, Int.reduceSub, Int.reduceMul, Nat.reduceMul, Nat.reduceSub, Nat.reduceLeDiff, k_law6_Cut, tkC, nn, e1, l1]; rfl) ?_
  refine WS_call (by simp only [go_sem, eRun_exit, Nat.reduceAdd, Nat.reduceLT, Nat.reduceEqDiff, reduceIte, reduceCtorEq, Int.reduceBEq, Int.reduceBNe, Int.reduceLT, Int.reduceLE, Int.reduceGT, Int.reduceGE, Int.reduceEq, Int.reduceAdd, Int.reduceSub, Int.reduceMul, Nat.reduceMul, Nat.reduceSub, Nat.reduceLeDiff]) (by simp only [go_sem, eRun_exit, Nat.reduceAdd, Nat.reduceLT, Nat.reduceEqDiff, reduceIte, reduceCtorEq, Int.reduceBEq, Int.reduceBNe, Int.reduceLT, Int.reduceLE, Int.reduceGT, Int.reduceGE, Int.reduceEq, Int.reduceAdd, Int.reduceSub, Int.reduceMul, Nat.reduceMul, Nat.reduceSub, Nat.reduceLeDiff]; rfl) ?_
  refine cut_ok C ?_
  have s2 := c1.set (i := 1) (v := .str (s.take 20)) (by simp) rfl
  have d1 : CB _ aw.next _ := put_cb (l := [V.int .i64 k, .str (s.take 20), .int .i64 n]) c1.lt
  have f2 := put_frm (w := w1) (b := aw.next) (l := [V.int .i64 k, .str (s.take 20), .int .i64 n])
  have d2 := c2.frm f2 (by omega)
  have s2 : w1.store aw.next 1 [.str (s.take 20)] = some (w1.put aw.next [V.int .i64 k, .str (s.take 20), .int .i64 n]) := s2
  generalize w1.put aw.next [V.int .i64 k, .str (s.take 20), .int .i64 n] = w2 at *
  have l3 := CB.ld d1 0 3 _ rfl
  have s3 := d2.setAll (vs := [V.int .i64 k, .str (s.take 20), .int .i64 n]) rfl rfl
  have d3 : CB _ (aw.next + 1) _ := put_cb (l := [V.int .i64 k, .str (s.take 20), .int .i64 n]) d2.lt
  have f3 := put_frm (w := w2) (b := aw.next + 1) (l := [V.int .i64 k, .str (s.take 20), .int .i64 n])
  generalize w2.put (aw.next + 1) [V.int .i64 k, .str (s.take 20), .int .i64 n] = w3 at *
  have l4 := CB.ld d3 0 3 _ rfl
  refine WS_run 1000 (by simp only [go_sem, eRun_exit, Nat.reduceAdd, Nat.reduceLT, Nat.reduceEqDiff, reduceIte, reduceCtorEq, Int.reduceBEq, Int.reduceBNe, Int.reduceLT, Int.reduceLE, Int.reduceGT, Int.reduceGE, Int.reduceEq, Int.reduceAdd, Int.reduceSub, Int.reduceMul, Nat.reduceMul, Nat.reduceSub, Nat.reduceLeDiff, s2, l3, s3, List.length_cons, List.length_nil]; rfl) ?_
  refine WS_ret ⟨_, by simp only [go_sem, eRun_exit, Nat.reduceAdd, Nat.reduceLT, Nat.reduceEqDiff, reduceIte, reduceCtorEq, Int.reduceBEq, Int.reduceBNe, Int.reduceLT, Int.reduceLE, Int.reduceGT, Int.reduceGE, Int.reduceEq, Int.reduceAdd, Int.reduceSub, Int.reduceMul, Nat.reduceMul, Nat.reduceSub, Nat.reduceLeDiff, k_law6_Cut, l4]; rfl, ?_⟩
  exact h w3 ((r1.trans f2 (fun _ _ h => h) (by rintro x hx rfl; omega)).trans f3 (fun _ _ h => h) (by rintro x hx rfl; omega))
end Go.Proofs.YtjidefnbancmfaaDoor

/- Constants: numbers in decimal. -/
set_option linter.unusedVariables false
set_option maxRecDepth 10000
set_option linter.unusedSimpArgs false
namespace Go.Proofs.YtjidefnbancmfaaDoor
open Go.AE Delphi
variable {tab : Tab}
def Begins (tab : Tab) : Prop := ∀ aw, CallR tab n_law6_begun [] aw (.bool true) aw
theorem begins_ok (B : Begins tab) {aw : AW} {K : V → AW → Prop} (h : K (.bool true) aw) : WF tab n_law6_begun [] aw K := ⟨_, _, B aw, h⟩
end Go.Proofs.YtjidefnbancmfaaDoor

/- Constants: the laws of the words and of the order. -/
set_option linter.unusedVariables false
set_option maxRecDepth 10000
set_option linter.unusedSimpArgs false
namespace Go.Proofs.YtjidefnbancmfaaDoor
open Go.AE Delphi
variable {tab : Tab}
theorem cut_tk {t : Tk} (ht : ∀ c ∈ t.s, c < 256) : TkOk (tkCut t) := ⟨by show (t.s.take 20).length ≤ _; rw [List.length_take]; omega, fun c hc => ht c (List.mem_of_mem_take hc)⟩
structure St2 (aw : AW) (a b : Tk) (w : AW) : Prop where
  a : CB w aw.next (tkC a)
  b : CB w (aw.next + 1) (tkC b)
  frm : Frm (fun _ => False) aw w
theorem St2.step {aw w w' : AW} {a b : Tk} (h : St2 aw a b w) (hf : Frm (fun _ => False) w w') : St2 aw a b w' := ⟨h.a.frm hf fun h => h, h.b.frm hf fun h => h, h.frm.tr hf⟩
theorem St2.lb {aw w : AW} {a b : Tk} (h : St2 aw a b w) : w.load (aw.next + 1) 0 3 = some (tkC b) := CB.ld h.b 0 3 _ rfl
theorem tkC_len (t : Tk) : (tkC t).length = 3 := rfl
theorem St2.set {aw w : AW} {a b a' b' : Tk} (h : St2 aw a b w) : ∃ w1 w2, w.store aw.next 0 (tkC a') = some w1 ∧ w1.store (aw.next + 1) 0 (tkC b') = some w2 ∧ St2 aw a' b' w2 := by
  have s1 := h.a.setAll (vs := tkC a') rfl rfl
  have d1 : CB _ aw.next _ := put_cb (l := tkC a') h.a.lt
  have f1 := put_frm (w := w) (b := aw.next) (l := tkC a')
  have d2 := h.b.frm f1 (by omega)
  have s2 := d2.setAll (vs := tkC b') rfl rfl
  have f2 := put_frm (w := w.put aw.next (tkC a')) (b := aw.next + 1) (l := tkC b')
  refine ⟨_, _, s1, s2, d1.frm f2 (by omega), put_cb d2.lt, ?_⟩
  refine (h.frm.trans f1 (fun _ _ h => h) ?_).trans f2 (fun _ _ h => h) ?_
  · rintro x hx rfl; omega
  · rintro x hx rfl; omega
theorem eqL_refl : ∀ s : List Nat, eqL s s = true
  | [] => rfl
  | c :: s => by show (Nat.beq c c && eqL s s) = true; rw [eqL_refl s, Nat.beq_refl]; rfl
end Go.Proofs.YtjidefnbancmfaaDoor

/- Constants: atoms printed. -/
set_option linter.unusedVariables false
set_option maxRecDepth 10000
set_option linter.unusedSimpArgs false
namespace Go.Proofs.YtjidefnbancmfaaDoor
open Go.AE Delphi
variable {tab : Tab}
def prT (t : Tk) : List Nat := if t.k = 3 then fmtI t.n else t.s
structure TkPr (t : Tk) : Prop where
  num : t.n.natAbs ≤ 2147483648
  len : (prT t).length ≤ 3000000000
def tksC (l : List Tk) : List V := l.flatMap tkC
theorem tks_at {T : Nat → Prop} {w : AW} {v : V} {l : List Tk} (h : Rd T w v 3 l.length (tksC l)) {i : Nat} {t : Tk} (hi : l[i]? = some t) : ∃ b o c, v = .slice b o l.length c ∧ T b ∧ b < w.next ∧ w.load b (o + i * 3) 3 = some (tkC t) := by
  have hlt : i < l.length := (List.getElem?_eq_some_iff.1 hi).1
  rcases h.inv with ⟨_, q2, _⟩ | ⟨b, o, c, rfl, hB⟩
  · omega
  · refine ⟨b, o, c, rfl, hB.own, hB.lt, ?_⟩
    rw [hB.load (i * 3) 3 (by omega)]
    have h2 := flat_part tkC_len (i := i) (j := 0) (k := 3) hi (by omega)
    rw [Nat.zero_add] at h2
    exact congrArg some h2
end Go.Proofs.YtjidefnbancmfaaDoor

/- Constants: atoms printed, as the document says; facts; the law of facts. -/
set_option linter.unusedVariables false
set_option maxRecDepth 10000
set_option linter.unusedSimpArgs false
namespace Go.Proofs.YtjidefnbancmfaaDoor
open Go.AE Delphi
variable {tab : Tab}
end Go.Proofs.YtjidefnbancmfaaDoor

/- Constants: the law of facts. -/
set_option linter.unusedVariables false
set_option maxRecDepth 10000
set_option linter.unusedSimpArgs false
namespace Go.Proofs.YtjidefnbancmfaaDoor
open Go.AE Delphi
variable {tab : Tab}
structure FcW (aw : AW) (nm : List Nat) (av v : V) (S : Nat → Prop) (out : List Tk) (w : AW) : Prop where
  a : CB w aw.next [.str nm, av]
  b : Bt S w v 3 out.length (tksC out)
  s : ∀ x, S x → aw.next < x ∧ x < w.next
  f : Frm (fun _ => False) aw w
  may : ∀ t ∈ out, TkPr t
  len : out.length ≤ 6
theorem FcW.step {aw : AW} {nm : List Nat} {av v : V} {S : Nat → Prop} {out : List Tk} {w w' : AW} (h : FcW aw nm av v S out w) (hf : Frm (fun _ => False) w w') : FcW aw nm av v S out w' :=
  ⟨h.a.frm hf fun h => h, h.b.frm hf fun _ _ h => h, fun x hx => ⟨(h.s x hx).1, Nat.lt_of_lt_of_le (h.s x hx).2 hf.next⟩, h.f.tr hf, h.may, h.len⟩
theorem tksC_len (l : List Tk) : (tksC l).length = l.length * 3 := by
  induction l with
  | nil => rfl
  | cons x l ih => show (tkC x ++ tksC l).length = _; rw [List.length_append, ih, List.length_cons]; show 3 + _ = _; omega
end Go.Proofs.YtjidefnbancmfaaDoor

/- Constants: the table. -/
set_option linter.unusedVariables false
set_option maxRecDepth 10000
set_option linter.unusedSimpArgs false
namespace Go.Proofs.YtjidefnbancmfaaDoor
open Go.AE Delphi
variable {tab : Tab}
theorem Tk.ext' {a b : Tk} (h1 : a.k = b.k) (h2 : a.s = b.s) (h3 : a.n = b.n) : a = b := by
  cases a; cases b; simp only at h1 h2 h3; subst h1; subst h2; subst h3; rfl
instance tkDec : DecidableEq Tk := fun a b =>
  if h : a.k = b.k ∧ a.s = b.s ∧ a.n = b.n then isTrue (Tk.ext' h.1 h.2.1 h.2.2) else isFalse fun e => h (by rw [e]; exact ⟨rfl, rfl, rfl⟩)
theorem tkSame_eq (a b : Tk) : tkSame a b = decide (a = b) := by
  unfold tkSame
  by_cases h : a = b
  · subst h; simp [eqL_refl]
  · rw [decide_eq_false h]
    cases h1 : (a.k == b.k) with
    | false => rfl
    | true => cases h2 : eqL a.s b.s with
      | false => rfl
      | true => cases h3 : (a.n == b.n) with
        | false => rfl
        | true => exact absurd (Tk.ext' (eq_of_beq h1) (eqL_iff.1 h2) (eq_of_beq h3)) h
def tkV (t : Tk) : V := .agg (tkC t)
def numV (n : Nat) : V := .int .i64 (Int.ofNat n)
theorem tkKey : KeyE (.cells [.int, .str, .int]) tkV := ⟨fun a b => by
  show eqCells _ (tkC a) (tkC b) = _
  rw [← tkSame_eq]
  simp only [tkC, eqCells, eqScalar, tkSame, if_true]
  cases (a.k == b.k) <;> cases eqL a.s b.s <;> cases (a.n == b.n) <;> rfl, fun _ => rfl⟩
def numF : Nat → List Tk → List (Tk × Nat)
  | _, [] => []
  | k, c :: r => (c, k) :: numF (k + 1) r
theorem numF_snoc : ∀ (l : List Tk) (k : Nat) (c : Tk), numF k (l ++ [c]) = numF k l ++ [(c, k + l.length)]
  | [], k, c => rfl
  | x :: l, k, c => by
    simp only [List.cons_append, numF, numF_snoc l (k + 1) c, List.length_cons]
    congr 3; simp; omega
theorem aget_app {l m : List (Tk × Nat)} {c : Tk} : aget (l ++ m) c = match aget l c with | some v => some v | none => aget m c := by
  induction l with
  | nil => rfl
  | cons x l ih =>
    obtain ⟨a, b⟩ := x
    simp only [List.cons_append, aget]
    by_cases h : c = a
    · simp [h]
    · simp only [if_neg h, ih]
theorem aget_numF : ∀ {l : List Tk} {k : Nat} {c : Tk}, (aget (numF k l) c = none ↔ c ∉ l)
  | [], k, c => by simp [numF, aget]
  | x :: l, k, c => by
    simp only [numF, aget]
    by_cases h : c = x
    · simp [h]
    · rw [if_neg h, aget_numF]; simp [h]
def posOf (l : List Tk) (c : Tk) : Nat := (aget (numF 1 l) c).getD 0
theorem posOf_not {l : List Tk} {c : Tk} (h : c ∉ l) : posOf l c = 0 := by unfold posOf; rw [aget_numF.2 h]; rfl
theorem posOf_in {l : List Tk} {c : Tk} (h : c ∈ l) : aget (numF 1 l) c = some (posOf l c) := by
  unfold posOf
  cases hx : aget (numF 1 l) c with
  | none => exact absurd h (aget_numF.1 hx)
  | some v => rfl
theorem posOf_snoc_same {l : List Tk} {c : Tk} (h : c ∉ l) : posOf (l ++ [c]) c = l.length + 1 := by
  unfold posOf
  rw [numF_snoc, aget_app, aget_numF.2 h]
  simp [aget]; omega
theorem posOf_snoc_ne {l : List Tk} {x c : Tk} (h : c ≠ x) : posOf (l ++ [x]) c = posOf l c := by
  unfold posOf
  rw [numF_snoc, aget_app]
  cases aget (numF 1 l) c with
  | none => simp [aget, h]
  | some v => rfl
structure TabW (tb mb : Nat) (v : V) (S : Nat → Prop) (ts : List Tk) (w : AW) : Prop where
  a : CB w tb [.map mb, v]
  m : MB tkV numV w mb (numF 1 ts)
  b : Bt S w v 3 ts.length (tksC ts)
  s : ∀ x, S x → x < w.next ∧ x ≠ tb ∧ x ≠ mb
  ne : mb ≠ tb
theorem TabW.step {tb mb : Nat} {v : V} {S T : Nat → Prop} {ts : List Tk} {w w' : AW} (h : TabW tb mb v S ts w) (hf : Frm T w w') (h1 : ¬ T tb) (h2 : ¬ T mb) (h3 : ∀ x, S x → ¬ T x) : TabW tb mb v S ts w' :=
  ⟨h.a.frm hf h1, h.m.frm hf h2, h.b.frm hf h3, fun x hx => ⟨Nat.lt_of_lt_of_le (h.s x hx).1 hf.next, (h.s x hx).2⟩, h.ne⟩
theorem TabW.step0 {tb mb : Nat} {v : V} {S : Nat → Prop} {ts : List Tk} {w w' : AW} (h : TabW tb mb v S ts w) (hf : Frm (fun _ => False) w w') : TabW tb mb v S ts w' := h.step hf (fun h => h) (fun h => h) fun _ _ h => h
theorem new_ok (C : Codes tab) {aw : AW} {K : V → AW → Prop} (h : ∀ w, TabW (aw.next + 1) aw.next .nilslice (fun _ => False) [] w → Frm (fun _ => False) aw w → K (.ptr (aw.next + 1) 0) w) : WF tab n_value_New [] aw K := by
  refine WF_of C.c_value_New rfl ?_
  have hm := MB.new (ke := tkV) (ve := numV) aw
  have fm := mnew_frm (S := fun _ => False) aw
  have n1 : (aw.new (.map [] 0)).next = aw.next + 1 := rfl
  obtain ⟨w1, e1, c1, r1, m1⟩ := box1 (aw.new (.map [] 0)) [.map aw.next, .nilslice]
  have hov : over [V.nilmap, V.nilslice] 0 [V.map aw.next] = some [V.map aw.next, V.nilslice] := rfl
  refine WS_run 1000 (by simp only [go_sem, eRun_exit, Nat.reduceAdd, Nat.reduceLT, Nat.reduceEqDiff, reduceIte, reduceCtorEq, Int.reduceBEq, Int.reduceBNe, Int.reduceLT, Int.reduceLE, Int.reduceGT, Int.reduceGE, Int.reduceEq, Int.reduceAdd, Int.reduceSub, Int.reduceMul, Nat.reduceMul, Nat.reduceSub, Nat.reduceLeDiff, k_value_New, evParts, fillV, hov, takeN, List.drop_zero, cells_map, e1, n1]; rfl) ?_
  refine WS_ret ⟨_, by simp only [go_sem, eRun_exit, Nat.reduceAdd, Nat.reduceLT, Nat.reduceEqDiff, reduceIte, reduceCtorEq, Int.reduceBEq, Int.reduceBNe, Int.reduceLT, Int.reduceLE, Int.reduceGT, Int.reduceGE, Int.reduceEq, Int.reduceAdd, Int.reduceSub, Int.reduceMul, Nat.reduceMul, Nat.reduceSub, Nat.reduceLeDiff, k_value_New]; rfl, ?_⟩
  rw [n1] at c1
  subst e1
  exact h _ ⟨c1, hm.frm r1 fun h => h, .nil, fun _ h => h.elim, by omega⟩ (fm.tr r1)
theorem len_ok (C : Codes tab) {tb mb : Nat} {v : V} {S : Nat → Prop} {ts : List Tk} {aw : AW} {K : V → AW → Prop} (hT : TabW tb mb v S ts aw) (h : K (.int .i64 (Int.ofNat ts.length)) aw) : WF tab n_value_Table_Len [.ptr tb 0] aw K := by
  refine WF_of C.c_value_Table_Len rfl ?_
  have l1 := CB.ld hT.a 1 1 _ rfl
  have hlv := hT.b.lenV
  have hp : eqV .ptr (.ptr tb 0) .nilptr = some false := rfl
  refine WS_run 1000 (by simp only [go_sem, eRun_exit, Nat.reduceAdd, Nat.reduceLT, Nat.reduceEqDiff, reduceIte, reduceCtorEq, Int.reduceBEq, Int.reduceBNe, Int.reduceLT, Int.reduceLE, Int.reduceGT, Int.reduceGE, Int.reduceEq, Int.reduceAdd, Int.reduceSub, Int.reduceMul, Nat.reduceMul, Nat.reduceSub, Nat.reduceLeDiff, k_value_Table_Len, l1, hlv, hp]; rfl) ?_
  refine WS_ret ⟨_, by simp only [go_sem, eRun_exit, Nat.reduceAdd, Nat.reduceLT, Nat.reduceEqDiff, reduceIte, reduceCtorEq, Int.reduceBEq, Int.reduceBNe, Int.reduceLT, Int.reduceLE, Int.reduceGT, Int.reduceGE, Int.reduceEq, Int.reduceAdd, Int.reduceSub, Int.reduceMul, Nat.reduceMul, Nat.reduceSub, Nat.reduceLeDiff, k_value_Table_Len]; rfl, ?_⟩
  exact h
theorem term_ok (C : Codes tab) {tb mb : Nat} {v : V} {S : Nat → Prop} {ts : List Tk} {aw : AW} {i : Int} {K : V → AW → Prop} (hT : TabW tb mb v S ts aw) (hlen : ts.length ≤ 1000) (hi : -1000 ≤ i ∧ i ≤ 1000)
    (h : ∀ w t, Frm (fun _ => False) aw w → (∀ k : Nat, i = Int.ofNat (k + 1) → k < ts.length → ts[k]? = some t) → (i < 1 ∨ i > Int.ofNat ts.length → t = ⟨0, [], 0⟩) → K (.agg (tkC t)) w) : WF tab n_value_Table_Term [.ptr tb 0, .int .i64 i] aw K := by
  refine WF_of C.c_value_Table_Term rfl ?_
  have hp : eqV .ptr (.ptr tb 0) .nilptr = some false := rfl
  obtain ⟨w1, e1, c1, r1, m1⟩ := box1 aw [.int .i64 0, .str [], .int .i64 0]
  have hT1 := hT.step0 r1
  have l1 := CB.ld hT1.a 1 1 _ rfl
  have hlv := hT1.b.lenV
  have fin : ∀ t : Tk, ∃ w2, w1.store aw.next 0 (tkC t) = some w2 ∧ w2.load aw.next 0 3 = some (tkC t) ∧ Frm (fun _ => False) aw w2 := fun t =>
    ⟨_, c1.setAll (vs := tkC t) rfl rfl, (put_cb (l := tkC t) c1.lt).all (n := 3) rfl, r1.trans put_frm (fun _ _ h => h) (by rintro x hx rfl; omega)⟩
  obtain ⟨w2, s2, k2, f2⟩ := fin ⟨0, [], 0⟩
  have s2 : w1.store aw.next 0 [.int .i64 0, .str [], .int .i64 0] = some w2 := s2
  have k2 : w2.load aw.next 0 3 = some [.int .i64 0, .str [], .int .i64 0] := k2
  by_cases h1 : i < 1
  · refine WS_run 1000 (by simp only [go_sem, eRun_exit, Nat.reduceAdd, Nat.reduceLT, Nat.reduceEqDiff, reduceIte, reduceCtorEq, Int.reduceBEq, Int.reduceBNe, Int.reduceLT, Int.reduceLE, Int.reduceGT, Int.reduceGE, Int.reduceEq, Int.reduceAdd, Int.reduceSub, Int.reduceMul, Nat.reduceMul, Nat.reduceSub, Nat.reduceLeDiff, k_value_Table_Term, hp, e1, h1, evParts, fillV, over, takeN, List.length_cons, List.length_nil, s2]; rfl) ?_
    refine WS_ret ⟨_, by simp only [go_sem, eRun_exit, Nat.reduceAdd, Nat.reduceLT, Nat.reduceEqDiff, reduceIte, reduceCtorEq, Int.reduceBEq, Int.reduceBNe, Int.reduceLT, Int.reduceLE, Int.reduceGT, Int.reduceGE, Int.reduceEq, Int.reduceAdd, Int.reduceSub, Int.reduceMul, Nat.reduceMul, Nat.reduceSub, Nat.reduceLeDiff, k_value_Table_Term, k2]; rfl, ?_⟩
    exact h w2 ⟨0, [], 0⟩ f2 (fun k hk => by rw [hk] at h1; have : ((k + 1 : Nat) : Int) < 1 := h1; omega) fun _ => rfl
  by_cases h2 : i > Int.ofNat ts.length
  · refine WS_run 1000 (by simp only [go_sem, eRun_exit, Nat.reduceAdd, Nat.reduceLT, Nat.reduceEqDiff, reduceIte, reduceCtorEq, Int.reduceBEq, Int.reduceBNe, Int.reduceLT, Int.reduceLE, Int.reduceGT, Int.reduceGE, Int.reduceEq, Int.reduceAdd, Int.reduceSub, Int.reduceMul, Nat.reduceMul, Nat.reduceSub, Nat.reduceLeDiff, k_value_Table_Term, hp, e1, h1, l1, hlv, h2, evParts, fillV, over, takeN, List.length_cons, List.length_nil, s2]; rfl) ?_
    refine WS_ret ⟨_, by simp only [go_sem, eRun_exit, Nat.reduceAdd, Nat.reduceLT, Nat.reduceEqDiff, reduceIte, reduceCtorEq, Int.reduceBEq, Int.reduceBNe, Int.reduceLT, Int.reduceLE, Int.reduceGT, Int.reduceGE, Int.reduceEq, Int.reduceAdd, Int.reduceSub, Int.reduceMul, Nat.reduceMul, Nat.reduceSub, Nat.reduceLeDiff, k_value_Table_Term, k2]; rfl, ?_⟩
    exact h w2 ⟨0, [], 0⟩ f2 (fun k hk hl => by rw [hk] at h2; have : ((k + 1 : Nat) : Int) > (ts.length : Int) := h2; omega) fun _ => rfl
  obtain ⟨k, rfl⟩ : ∃ k : Nat, i = Int.ofNat (k + 1) := ⟨i.toNat - 1, by show _ = ((i.toNat - 1 + 1 : Nat) : Int); omega⟩
  have hk : k < ts.length := by have : ¬ (((k + 1 : Nat) : Int) > (ts.length : Int)) := h2; omega
  have hwr : IntKind.wrap .i64 (Int.ofNat (k + 1) - 1) = Int.ofNat k := by
    rw [show Int.ofNat (k + 1) - 1 = Int.ofNat k by show ((k + 1 : Nat) : Int) - 1 = (k : Int); omega]
    exact wrap_id (by show (-9223372036854775808 : Int) ≤ (k : Int); omega) (by show (k : Int) ≤ _; omega)
  obtain ⟨t, ht⟩ : ∃ t, ts[k]? = some t := ⟨_, List.getElem?_eq_getElem hk⟩
  obtain ⟨b, o, c, rfl, hTb, hbl, a3⟩ := tks_at hT1.b.rd ht
  obtain ⟨w3, s3, k3, f3⟩ := fin t
  refine WS_run 1000 (by simp only [go_sem, eRun_exit, Nat.reduceAdd, Nat.reduceLT, Nat.reduceEqDiff, reduceIte, reduceCtorEq, Int.reduceBEq, Int.reduceBNe, Int.reduceLT, Int.reduceLE, Int.reduceGT, Int.reduceGE, Int.reduceEq, Int.reduceAdd, Int.reduceSub, Int.reduceMul, Nat.reduceMul, Nat.reduceSub, Nat.reduceLeDiff, k_value_Table_Term, hp, e1, h1, l1, hlv, h2, hwr, hk, a3, tkC_len, s3]; rfl) ?_
  refine WS_ret ⟨_, by simp only [go_sem, eRun_exit, Nat.reduceAdd, Nat.reduceLT, Nat.reduceEqDiff, reduceIte, reduceCtorEq, Int.reduceBEq, Int.reduceBNe, Int.reduceLT, Int.reduceLE, Int.reduceGT, Int.reduceGE, Int.reduceEq, Int.reduceAdd, Int.reduceSub, Int.reduceMul, Nat.reduceMul, Nat.reduceSub, Nat.reduceLeDiff, k_value_Table_Term, k3]; rfl, ?_⟩
  exact h w3 t f3 (fun k' hk' hl => by have e : Int.ofNat (k + 1) = Int.ofNat (k' + 1) := hk'; have : k + 1 = k' + 1 := Int.ofNat.inj e; obtain rfl : k = k' := by omega
                                       exact ht) fun hc => by rcases hc with hc | hc; exact absurd hc h1; exact absurd hc h2
end Go.Proofs.YtjidefnbancmfaaDoor

/- Constants: the table's numbers. -/
set_option linter.unusedVariables false
set_option maxRecDepth 10000
set_option linter.unusedSimpArgs false
namespace Go.Proofs.YtjidefnbancmfaaDoor
open Go.AE Delphi
variable {tab : Tab}
theorem id_ok (C : Codes tab) {tb mb : Nat} {v : V} {S : Nat → Prop} {ts : List Tk} {c : Tk} {aw : AW} {K : V → AW → Prop} (hT : TabW tb mb v S ts aw) (hlen : ts.length ≤ 1000) (hc : TkOk c)
    (h0 : tkMay c = false → ∀ w, Frm (fun _ => False) aw w → K (.int .i64 0) w)
    (h1 : tkMay c = true → c ∈ ts → ∀ w, Frm (fun _ => False) aw w → K (.int .i64 (Int.ofNat (posOf ts c))) w)
    (h2 : tkMay c = true → c ∉ ts → ∀ w v' S', TabW tb mb v' S' (ts ++ [c]) w → Frm (fun x => S x ∨ x = tb ∨ x = mb) aw w → (∀ x, S' x → S x ∨ aw.next ≤ x) → K (.int .i64 (Int.ofNat (ts.length + 1))) w) : WF tab n_value_Table_Id [.ptr tb 0, .agg (tkC c)] aw K := by
  refine WF_of C.c_value_Table_Id rfl ?_
  have hp : eqV .ptr (.ptr tb 0) .nilptr = some false := rfl
  obtain ⟨w1, e1, c1, r1, m1⟩ := box1 aw (tkC c)
  have k1 := c1.all (n := 3) rfl
  refine WS_run 1000 (by simp only [go_sem, eRun_exit, Nat.reduceAdd, Nat.reduceLT, Nat.reduceEqDiff, reduceIte, reduceCtorEq, Int.reduceBEq, Int.reduceBNe, Int.reduceLT, Int.reduceLE, Int.reduceGT, Int.reduceGE, Int.reduceEq, Int.reduceAdd, Int.reduceSub, Int.reduceMul, Nat.reduceMul, Nat.reduceSub, Nat.reduceLeDiff, k_value_Table_Id, hp, e1, k1]; rfl) ?_
  refine WS_call (by simp only [go_sem, eRun_exit, Nat.reduceAdd, Nat.reduceLT, Nat.reduceEqDiff, reduceIte, reduceCtorEq, Int.reduceBEq, Int.reduceBNe, Int.reduceLT, Int.reduceLE, Int.reduceGT, Int.reduceGE, Int.reduceEq, Int.reduceAdd, Int.reduceSub, Int.reduceMul, Nat.reduceMul, Nat.reduceSub, Nat.reduceLeDiff]) (by simp only [go_sem, eRun_exit, Nat.reduceAdd, Nat.reduceLT, Nat.reduceEqDiff, reduceIte, reduceCtorEq, Int.reduceBEq, Int.reduceBNe, Int.reduceLT, Int.reduceLE, Int.reduceGT, Int.reduceGE, Int.reduceEq, Int.reduceAdd, Int.reduceSub, Int.reduceMul, Nat.reduceMul, Nat.reduceSub, Nat.reduceLeDiff]; rfl) ?_
  refine may_ok C hc fun w2 g2 => ?_
  have c2 := c1.frm g2 fun h => h
  have k2 := c2.all (n := 3) rfl
  have f2 := r1.tr g2
  cases hm : tkMay c with
  | false =>
    refine WS_run 1000 (by simp only [go_sem, eRun_exit, Nat.reduceAdd, Nat.reduceLT, Nat.reduceEqDiff, reduceIte, reduceCtorEq, Int.reduceBEq, Int.reduceBNe, Int.reduceLT, Int.reduceLE, Int.reduceGT, Int.reduceGE, Int.reduceEq, Int.reduceAdd, Int.reduceSub, Int.reduceMul, Nat.reduceMul, Nat.reduceSub, Nat.reduceLeDiff]; rfl) ?_
    refine WS_ret ⟨_, by simp only [go_sem, eRun_exit, Nat.reduceAdd, Nat.reduceLT, Nat.reduceEqDiff, reduceIte, reduceCtorEq, Int.reduceBEq, Int.reduceBNe, Int.reduceLT, Int.reduceLE, Int.reduceGT, Int.reduceGE, Int.reduceEq, Int.reduceAdd, Int.reduceSub, Int.reduceMul, Nat.reduceMul, Nat.reduceSub, Nat.reduceLeDiff, k_value_Table_Id]; rfl, ?_⟩
    exact h0 hm w2 f2
  | true =>
  have hT2 := hT.step0 f2
  have l0 := CB.ld hT2.a 0 1 _ rfl
  have l1 := CB.ld hT2.a 1 1 _ rfl
  have hlook : w2.lookV (.cells [.int, .str, .int]) (.int .i64 0) (.map mb) (.agg (tkC c)) = some (mres numV (.int .i64 0) (aget (numF 1 ts) c)) := hT2.m.look tkKey (.int .i64 0) c
  by_cases hin : c ∈ ts
  · rw [posOf_in hin] at hlook
    have hlook : w2.lookV (.cells [.int, .str, .int]) (.int .i64 0) (.map mb) (.agg (tkC c)) = some (.int .i64 (Int.ofNat (posOf ts c)), true) := hlook
    refine WS_run 1000 (by simp only [go_sem, eRun_exit, Nat.reduceAdd, Nat.reduceLT, Nat.reduceEqDiff, reduceIte, reduceCtorEq, Int.reduceBEq, Int.reduceBNe, Int.reduceLT, Int.reduceLE, Int.reduceGT, Int.reduceGE, Int.reduceEq, Int.reduceAdd, Int.reduceSub, Int.reduceMul, Nat.reduceMul, Nat.reduceSub, Nat.reduceLeDiff, l0, k2, hlook]; rfl) ?_
    refine WS_ret ⟨_, by simp only [go_sem, eRun_exit, Nat.reduceAdd, Nat.reduceLT, Nat.reduceEqDiff, reduceIte, reduceCtorEq, Int.reduceBEq, Int.reduceBNe, Int.reduceLT, Int.reduceLE, Int.reduceGT, Int.reduceGE, Int.reduceEq, Int.reduceAdd, Int.reduceSub, Int.reduceMul, Nat.reduceMul, Nat.reduceSub, Nat.reduceLeDiff, k_value_Table_Id]; rfl, ?_⟩
    exact h1 hm hin w2 f2
  · rw [aget_numF.2 hin] at hlook
    have hlook : w2.lookV (.cells [.int, .str, .int]) (.int .i64 0) (.map mb) (.agg (tkC c)) = some (.int .i64 0, false) := hlook
    have g3 := fresh_frm (S := fun _ => False) w2 (tkC c)
    have hT3 := hT2.step0 g3
    have l1' := CB.ld hT3.a 1 1 _ rfl
    have hel : (w2.fresh (tkC c)).elems 3 (.slice w2.next 0 1 (.known 1)) = some (1, tkC c) := elems_fresh (by omega) rfl
    have hov : over [V.int .i64 0, V.str [], V.int .i64 0] 0 (tkC c) = some (tkC c) := rfl
    obtain ⟨v', w4, S4, u1, u2, u3, u4⟩ := hT3.b.addN (news := tkC c) (k := 1) (bytes := 32) (by omega) rfl rfl (by omega) (by omega)
    have c4 := hT3.a.frm u3 fun h => ((hT3.s _ h).2.1 rfl).elim
    have s4 : w4.store tb 1 [v'] = some (w4.put tb [.map mb, v']) := c4.set (i := 1) (v := v') (by simp) u2.one.1
    have c5 : CB (w4.put tb [.map mb, v']) tb _ := put_cb (l := [V.map mb, v']) c4.lt
    have f5 := put_frm (w := w4) (b := tb) (l := [V.map mb, v'])
    refine WS_run 1000 (by simp only [go_sem, eRun_exit, Nat.reduceAdd, Nat.reduceLT, Nat.reduceEqDiff, reduceIte, reduceCtorEq, Int.reduceBEq, Int.reduceBNe, Int.reduceLT, Int.reduceLE, Int.reduceGT, Int.reduceGE, Int.reduceEq, Int.reduceAdd, Int.reduceSub, Int.reduceMul, Nat.reduceMul, Nat.reduceSub, Nat.reduceLeDiff, l0, k2, hlook, k_value_Table_Id_p0]; rfl) ?_
    refine WS_drawn ?_
    refine WDs_run 100 (by simp only [go_sem, eRun_exit, Nat.reduceAdd, Nat.reduceLT, Nat.reduceEqDiff, reduceIte, reduceCtorEq, Int.reduceBEq, Int.reduceBNe, Int.reduceLT, Int.reduceLE, Int.reduceGT, Int.reduceGE, Int.reduceEq, Int.reduceAdd, Int.reduceSub, Int.reduceMul, Nat.reduceMul, Nat.reduceSub, Nat.reduceLeDiff, l1, k2, tkC_len, evParts, fillV, hov, List.length_cons, List.length_nil, hel, u1, s4, u2.one.2]; rfl) ?_
    refine WDs_nil ⟨(show chkAll _ _ [(4, 6)] from by simp only [go_sem, eRun_exit, Nat.reduceAdd, Nat.reduceLT, Nat.reduceEqDiff, reduceIte, reduceCtorEq, Int.reduceBEq, Int.reduceBNe, Int.reduceLT, Int.reduceLE, Int.reduceGT, Int.reduceGE, Int.reduceEq, Int.reduceAdd, Int.reduceSub, Int.reduceMul, Nat.reduceMul, Nat.reduceSub, Nat.reduceLeDiff, chkAll, chk, List.reverse_cons, List.reverse_nil, mkStp_fe, mkStp_v, mkStp_0, mkStp_1, List.getElem?_nil, false_or, or_true, or_false, exists_eq', Option.some.injEq, Prod.mk.injEq, Bool.true_eq_false, Bool.false_eq_true, and_true, true_and, implies_true,  l1, l1']), ?_⟩
    have hta := hT.a.lt
    have hma := hT.m.lt
    have hSn : ∀ x, S x → x < aw.next := fun x hx => (hT.s x hx).1
    have ct := (c2.frm g3 fun h => h).frm u3 fun h => by have := hSn _ h; omega
    have ct := ct.frm f5 (by omega)
    have m5 := ((hT3.m.frm u3 fun h => ((hT3.s _ h).2.2 rfl).elim).frm f5 hT.ne)
    have b5 : Bt S4 (w4.put tb [.map mb, v']) v' 3 (ts.length + 1) (tksC ts ++ tkC c) := u2.frm f5 fun x hx h => by
      obtain ⟨q1, q2⟩ := u4 x hx
      rcases q2 with q2 | q2
      · exact (hT3.s x q2).2.1 h
      · have n3 : (w2.fresh (tkC c)).next = w2.next + 1 := rfl
        have := f2.next
        omega
    have r5 : Frm (fun x => S x ∨ x = tb ∨ x = mb) aw (w4.put tb [.map mb, v']) :=
      ((f2.tr g3).no.trans u3 (fun _ _ h => h) fun x _ h => .inl h).trans f5 (fun _ _ h => h) fun x _ h => .inr (.inl h)
    have n3 : (w2.fresh (tkC c)).next = w2.next + 1 := rfl
    have n2 := f2.next
    have n5 : (w4.put tb [.map mb, v']).next = w4.next := rfl
    generalize w4.put tb [.map mb, v'] = w5 at *
    have j1 := CB.ld c5 1 1 _ rfl
    have j0 := CB.ld c5 0 1 _ rfl
    have hlv := b5.lenV
    have kt := ct.all (n := 3) rfl
    obtain ⟨w6, p1, p2, p3, p4⟩ := m5.put tkKey c (ts.length + 1)
    have p1 : w5.putV (.cells [.int, .str, .int]) (.map mb) (.agg (tkC c)) (.int .i64 (Int.ofNat (ts.length + 1))) = some w6 := p1
    refine WS_run 1000 (by simp only [go_sem, eRun_exit, Nat.reduceAdd, Nat.reduceLT, Nat.reduceEqDiff, reduceIte, reduceCtorEq, Int.reduceBEq, Int.reduceBNe, Int.reduceLT, Int.reduceLE, Int.reduceGT, Int.reduceGE, Int.reduceEq, Int.reduceAdd, Int.reduceSub, Int.reduceMul, Nat.reduceMul, Nat.reduceSub, Nat.reduceLeDiff, j1, j0, hlv, kt, p1]; rfl) ?_
    refine WS_ret ⟨_, by simp only [go_sem, eRun_exit, Nat.reduceAdd, Nat.reduceLT, Nat.reduceEqDiff, reduceIte, reduceCtorEq, Int.reduceBEq, Int.reduceBNe, Int.reduceLT, Int.reduceLE, Int.reduceGT, Int.reduceGE, Int.reduceEq, Int.reduceAdd, Int.reduceSub, Int.reduceMul, Nat.reduceMul, Nat.reduceSub, Nat.reduceLeDiff, k_value_Table_Id]; rfl, ?_⟩
    have hput : aput (numF 1 ts) c (ts.length + 1) = numF 1 (ts ++ [c]) := by rw [aput_none (aget_numF.2 hin), numF_snoc, Nat.add_comm 1]
    rw [hput] at p2
    refine h2 hm hin w6 v' S4 ⟨c5.frm p3 (fun h => hT.ne h.symm), p2, ?_, fun x hx => ?_, hT.ne⟩ (r5.trans p3 (fun _ _ h => h) fun x _ h => .inr (.inr h)) fun x hx => ?_
    · have : tksC (ts ++ [c]) = tksC ts ++ tkC c := by simp [tksC]
      rw [this, List.length_append]
      exact b5.frm p3 fun x hx h => by
        obtain ⟨q1, q2⟩ := u4 x hx
        rcases q2 with q2 | q2
        · exact (hT3.s x q2).2.2 h
        · omega
    · obtain ⟨q1, q2⟩ := u4 x hx
      refine ⟨by omega, ?_⟩
      rcases q2 with q2 | q2
      · exact (hT3.s x q2).2
      · exact ⟨by omega, by omega⟩
    · rcases (u4 x hx).2 with q2 | q2
      · exact .inl q2
      · exact .inr (by omega)
end Go.Proofs.YtjidefnbancmfaaDoor

/- Constants: the law of the table. -/
set_option linter.unusedVariables false
set_option maxRecDepth 10000
set_option linter.unusedSimpArgs false
namespace Go.Proofs.YtjidefnbancmfaaDoor
open Go.AE Delphi
variable {tab : Tab}
theorem idNil_ok (C : Codes tab) {c : Tk} {aw : AW} {K : V → AW → Prop} (h : ∀ w, Frm (fun _ => False) aw w → K (.int .i64 0) w) : WF tab n_value_Table_Id [.nilptr, .agg (tkC c)] aw K := by
  refine WF_of C.c_value_Table_Id rfl ?_
  have hp : eqV .ptr .nilptr .nilptr = some true := rfl
  obtain ⟨w1, e1, c1, r1, m1⟩ := box1 aw (tkC c)
  refine WS_run 1000 (by simp only [go_sem, eRun_exit, Nat.reduceAdd, Nat.reduceLT, Nat.reduceEqDiff, reduceIte, reduceCtorEq, Int.reduceBEq, Int.reduceBNe, Int.reduceLT, Int.reduceLE, Int.reduceGT, Int.reduceGE, Int.reduceEq, Int.reduceAdd, Int.reduceSub, Int.reduceMul, Nat.reduceMul, Nat.reduceSub, Nat.reduceLeDiff, k_value_Table_Id, hp, e1]; rfl) ?_
  refine WS_ret ⟨_, by simp only [go_sem, eRun_exit, Nat.reduceAdd, Nat.reduceLT, Nat.reduceEqDiff, reduceIte, reduceCtorEq, Int.reduceBEq, Int.reduceBNe, Int.reduceLT, Int.reduceLE, Int.reduceGT, Int.reduceGE, Int.reduceEq, Int.reduceAdd, Int.reduceSub, Int.reduceMul, Nat.reduceMul, Nat.reduceSub, Nat.reduceLeDiff, k_value_Table_Id]; rfl, ?_⟩
  exact h w1 r1
theorem lenNil_ok (C : Codes tab) {aw : AW} {K : V → AW → Prop} (h : K (.int .i64 0) aw) : WF tab n_value_Table_Len [.nilptr] aw K := by
  refine WF_of C.c_value_Table_Len rfl ?_
  have hp : eqV .ptr .nilptr .nilptr = some true := rfl
  refine WS_run 1000 (by simp only [go_sem, eRun_exit, Nat.reduceAdd, Nat.reduceLT, Nat.reduceEqDiff, reduceIte, reduceCtorEq, Int.reduceBEq, Int.reduceBNe, Int.reduceLT, Int.reduceLE, Int.reduceGT, Int.reduceGE, Int.reduceEq, Int.reduceAdd, Int.reduceSub, Int.reduceMul, Nat.reduceMul, Nat.reduceSub, Nat.reduceLeDiff, k_value_Table_Len, hp]; rfl) ?_
  refine WS_ret ⟨_, by simp only [go_sem, eRun_exit, Nat.reduceAdd, Nat.reduceLT, Nat.reduceEqDiff, reduceIte, reduceCtorEq, Int.reduceBEq, Int.reduceBNe, Int.reduceLT, Int.reduceLE, Int.reduceGT, Int.reduceGE, Int.reduceEq, Int.reduceAdd, Int.reduceSub, Int.reduceMul, Nat.reduceMul, Nat.reduceSub, Nat.reduceLeDiff, k_value_Table_Len]; rfl, ?_⟩
  exact h
/-- the search of the law: where a term stands last. -/
def VjI (w0 : AW) (f0 : Fr) (hv : V) (ts : List Tk) (c : Tk) (q : Nat) (f : Fr) (w : AW) : Prop :=
  ∃ j, (∀ y ∈ [0, 4, 5, 6, 7], f.get y = f0.get y) ∧ f.get 8 = some (.int .i64 (Int.ofNat (posOf (ts.take j) c))) ∧ f.get 9 = some (.int .i64 (Int.ofNat j)) ∧ j ≤ ts.length ∧ q = ts.length - j ∧ Frm (fun _ => False) w0 w
theorem vj_step (C : Codes tab) {T : Nat → Prop} {w0 : AW} {f0 : Fr} {hv : V} {ts : List Tk} {c : Tk} {cb : Nat} {q : Nat} {f : Fr} {w : AW} {s : List SI} {Q : Fr → AW → Prop}
    (g5 : f0.get 5 = some hv) (g7 : f0.get 7 = some (.ptr cb 0)) (hr : Rd T w0 hv 3 ts.length (tksC ts)) (hcb : CB w0 cb (tkC c)) (hlen : ts.length ≤ 1000) (hnd : ts.Nodup)
    (hI : VjI w0 f0 hv ts c q f w) (ih : ∀ n' f' w', n' < q → VjI w0 f0 hv ts c n' f' w' → WS tab (.code (.loop k_law6_ValueTable_p1) :: .endB 2 :: s) f' w' Q)
    (out : ∀ s' f' w', VjI w0 f0 hv ts c 0 f' w' → popTo 2 s' = some s → WS tab (.code (.exit 2) :: s') f' w' Q) : WS tab (.code k_law6_ValueTable_p1 :: .code (.loop k_law6_ValueTable_p1) :: .endB 2 :: s) f w Q := by
  obtain ⟨j, hold, f8, f9, hj, rfl, hf⟩ := hI
  have f5 := (hold 5 (by simp)).trans g5
  have f7 := (hold 7 (by simp)).trans g7
  have hrw := hr.frm hf fun _ _ h => h
  have hlv := hrw.lenV
  have kc := (hcb.frm hf fun h => h).all (n := 3) rfl
  by_cases hlt : j < ts.length
  case neg =>
    refine WS_runB 1000 (by simp only [go_sem, Nat.reduceAdd, Nat.reduceLT, Nat.reduceEqDiff, reduceIte, reduceCtorEq, Int.reduceBEq, Int.reduceBNe, Int.reduceLT, Int.reduceLE, Int.reduceGT, Int.reduceGE, Int.reduceEq, Int.reduceAdd, Int.reduceSub, Int.reduceMul, Nat.reduceMul, Nat.reduceSub, Nat.reduceLeDiff, k_law6_ValueTable_p1, f5, f9, hlv, hlt]; rfl) ?_
    refine out _ _ _ ⟨j, ?_, (by simp only [go_sem, eRun_exit, Nat.reduceAdd, Nat.reduceLT, Nat.reduceEqDiff, reduceIte, reduceCtorEq, Int.reduceBEq, Int.reduceBNe, Int.reduceLT, Int.reduceLE, Int.reduceGT, Int.reduceGE, Int.reduceEq, Int.reduceAdd, Int.reduceSub, Int.reduceMul, Nat.reduceMul, Nat.reduceSub, Nat.reduceLeDiff, f8] <;> rfl), (by simp only [go_sem, eRun_exit, Nat.reduceAdd, Nat.reduceLT, Nat.reduceEqDiff, reduceIte, reduceCtorEq, Int.reduceBEq, Int.reduceBNe, Int.reduceLT, Int.reduceLE, Int.reduceGT, Int.reduceGE, Int.reduceEq, Int.reduceAdd, Int.reduceSub, Int.reduceMul, Nat.reduceMul, Nat.reduceSub, Nat.reduceLeDiff, f9] <;> rfl), by omega, by omega, hf⟩ rfl
    intro y hy
    rw [← hold y hy]
    rcases (by simpa using hy : y = 0 ∨ y = 4 ∨ y = 5 ∨ y = 6 ∨ y = 7) with rfl | rfl | rfl | rfl | rfl <;> exact (by simp only [go_sem, eRun_exit, Nat.reduceAdd, Nat.reduceLT, Nat.reduceEqDiff, reduceIte, reduceCtorEq, Int.reduceBEq, Int.reduceBNe, Int.reduceLT, Int.reduceLE, Int.reduceGT, Int.reduceGE, Int.reduceEq, Int.reduceAdd, Int.reduceSub, Int.reduceMul, Nat.reduceMul, Nat.reduceSub, Nat.reduceLeDiff] <;> rfl)
  obtain ⟨t, ht⟩ : ∃ t, ts[j]? = some t := ⟨_, List.getElem?_eq_getElem hlt⟩
  obtain ⟨b, o, cc, rfl, hTb, hbl, a3⟩ := tks_at hrw ht
  have hwr : IntKind.wrap .i64 (Int.ofNat j + 1) = Int.ofNat (j + 1) := wrap_succ (by omega)
  have htk : ts.take (j + 1) = ts.take j ++ [t] := by rw [List.take_add_one, ht]; rfl
  have hnot : t ∉ ts.take j := by
    have h1 : (ts.take (j + 1)).Nodup := hnd.sublist (List.take_sublist _ _)
    rw [htk, List.nodup_append] at h1
    intro h
    exact h1.2.2 t h t (by simp) rfl
  refine WS_run 1000 (by simp only [go_sem, eRun_exit, Nat.reduceAdd, Nat.reduceLT, Nat.reduceEqDiff, reduceIte, reduceCtorEq, Int.reduceBEq, Int.reduceBNe, Int.reduceLT, Int.reduceLE, Int.reduceGT, Int.reduceGE, Int.reduceEq, Int.reduceAdd, Int.reduceSub, Int.reduceMul, Nat.reduceMul, Nat.reduceSub, Nat.reduceLeDiff, k_law6_ValueTable_p1, k_law6_ValueTable_p0, f5, f7, f9, hlv, hlt, a3, kc]; rfl) ?_
  refine WS_call (by simp only [go_sem, eRun_exit, Nat.reduceAdd, Nat.reduceLT, Nat.reduceEqDiff, reduceIte, reduceCtorEq, Int.reduceBEq, Int.reduceBNe, Int.reduceLT, Int.reduceLE, Int.reduceGT, Int.reduceGE, Int.reduceEq, Int.reduceAdd, Int.reduceSub, Int.reduceMul, Nat.reduceMul, Nat.reduceSub, Nat.reduceLeDiff]) (by simp only [go_sem, eRun_exit, Nat.reduceAdd, Nat.reduceLT, Nat.reduceEqDiff, reduceIte, reduceCtorEq, Int.reduceBEq, Int.reduceBNe, Int.reduceLT, Int.reduceLE, Int.reduceGT, Int.reduceGE, Int.reduceEq, Int.reduceAdd, Int.reduceSub, Int.reduceMul, Nat.reduceMul, Nat.reduceSub, Nat.reduceLeDiff]; rfl) ?_
  refine rEq_ok C fun w2 r2 => ?_
  rw [tkSame_eq]
  by_cases he : t = c
  · subst he
    rw [decide_eq_true rfl]
    refine WS_run 1000 (by simp only [go_sem, eRun_exit, Nat.reduceAdd, Nat.reduceLT, Nat.reduceEqDiff, reduceIte, reduceCtorEq, Int.reduceBEq, Int.reduceBNe, Int.reduceLT, Int.reduceLE, Int.reduceGT, Int.reduceGE, Int.reduceEq, Int.reduceAdd, Int.reduceSub, Int.reduceMul, Nat.reduceMul, Nat.reduceSub, Nat.reduceLeDiff, f9, hwr]; rfl) ?_
    refine ih _ _ _ (by omega) ⟨j + 1, ?_, ?_, (by simp only [go_sem, eRun_exit, Nat.reduceAdd, Nat.reduceLT, Nat.reduceEqDiff, reduceIte, reduceCtorEq, Int.reduceBEq, Int.reduceBNe, Int.reduceLT, Int.reduceLE, Int.reduceGT, Int.reduceGE, Int.reduceEq, Int.reduceAdd, Int.reduceSub, Int.reduceMul, Nat.reduceMul, Nat.reduceSub, Nat.reduceLeDiff] <;> rfl), by omega, rfl, hf.tr r2⟩
    · intro y hy
      rw [← hold y hy]
      rcases (by simpa using hy : y = 0 ∨ y = 4 ∨ y = 5 ∨ y = 6 ∨ y = 7) with rfl | rfl | rfl | rfl | rfl <;> exact (by simp only [go_sem, eRun_exit, Nat.reduceAdd, Nat.reduceLT, Nat.reduceEqDiff, reduceIte, reduceCtorEq, Int.reduceBEq, Int.reduceBNe, Int.reduceLT, Int.reduceLE, Int.reduceGT, Int.reduceGE, Int.reduceEq, Int.reduceAdd, Int.reduceSub, Int.reduceMul, Nat.reduceMul, Nat.reduceSub, Nat.reduceLeDiff] <;> rfl)
    · rw [htk, posOf_snoc_same hnot, List.length_take, Nat.min_eq_left (by omega)]; exact (by simp only [go_sem, eRun_exit, Nat.reduceAdd, Nat.reduceLT, Nat.reduceEqDiff, reduceIte, reduceCtorEq, Int.reduceBEq, Int.reduceBNe, Int.reduceLT, Int.reduceLE, Int.reduceGT, Int.reduceGE, Int.reduceEq, Int.reduceAdd, Int.reduceSub, Int.reduceMul, Nat.reduceMul, Nat.reduceSub, Nat.reduceLeDiff] <;> rfl)
  · rw [decide_eq_false he]
    refine WS_run 1000 (by simp only [go_sem, eRun_exit, Nat.reduceAdd, Nat.reduceLT, Nat.reduceEqDiff, reduceIte, reduceCtorEq, Int.reduceBEq, Int.reduceBNe, Int.reduceLT, Int.reduceLE, Int.reduceGT, Int.reduceGE, Int.reduceEq, Int.reduceAdd, Int.reduceSub, Int.reduceMul, Nat.reduceMul, Nat.reduceSub, Nat.reduceLeDiff, f9, hwr]; rfl) ?_
    refine ih _ _ _ (by omega) ⟨j + 1, ?_, ?_, (by simp only [go_sem, eRun_exit, Nat.reduceAdd, Nat.reduceLT, Nat.reduceEqDiff, reduceIte, reduceCtorEq, Int.reduceBEq, Int.reduceBNe, Int.reduceLT, Int.reduceLE, Int.reduceGT, Int.reduceGE, Int.reduceEq, Int.reduceAdd, Int.reduceSub, Int.reduceMul, Nat.reduceMul, Nat.reduceSub, Nat.reduceLeDiff] <;> rfl), by omega, rfl, hf.tr r2⟩
    · intro y hy
      rw [← hold y hy]
      rcases (by simpa using hy : y = 0 ∨ y = 4 ∨ y = 5 ∨ y = 6 ∨ y = 7) with rfl | rfl | rfl | rfl | rfl <;> exact (by simp only [go_sem, eRun_exit, Nat.reduceAdd, Nat.reduceLT, Nat.reduceEqDiff, reduceIte, reduceCtorEq, Int.reduceBEq, Int.reduceBNe, Int.reduceLT, Int.reduceLE, Int.reduceGT, Int.reduceGE, Int.reduceEq, Int.reduceAdd, Int.reduceSub, Int.reduceMul, Nat.reduceMul, Nat.reduceSub, Nat.reduceLeDiff] <;> rfl)
    · rw [htk, posOf_snoc_ne (fun h => he h.symm)]; exact (by simp only [go_sem, eRun_exit, Nat.reduceAdd, Nat.reduceLT, Nat.reduceEqDiff, reduceIte, reduceCtorEq, Int.reduceBEq, Int.reduceBNe, Int.reduceLT, Int.reduceLE, Int.reduceGT, Int.reduceGE, Int.reduceEq, Int.reduceAdd, Int.reduceSub, Int.reduceMul, Nat.reduceMul, Nat.reduceSub, Nat.reduceLeDiff, f8] <;> rfl)
theorem vj_loop (C : Codes tab) {T : Nat → Prop} {w0 : AW} {fr : Fr} {hv : V} {ts : List Tk} {c : Tk} {cb : Nat} {s : List SI} {Q : Fr → AW → Prop}
    (hr : Rd T w0 hv 3 ts.length (tksC ts)) (hcb : CB w0 cb (tkC c)) (hlen : ts.length ≤ 1000) (hnd : ts.Nodup)
    (g5 : fr.get 5 = some hv) (g7 : fr.get 7 = some (.ptr cb 0)) (g8 : fr.get 8 = some (.int .i64 (Int.ofNat 0))) (g9 : fr.get 9 = some (.int .i64 (Int.ofNat 0)))
    (after : ∀ f w', (∀ y ∈ [0, 4, 5, 6, 7], f.get y = fr.get y) → f.get 8 = some (.int .i64 (Int.ofNat (posOf ts c))) → Frm (fun _ => False) w0 w' → WS tab s f w' Q) : WS tab (.code (.loop k_law6_ValueTable_p1) :: .endB 2 :: s) fr w0 Q := by
  refine WS_loopJ (VjI w0 fr hv ts c) (VjI w0 fr hv ts c 0) (fun q f w hI ih out => vj_step C g5 g7 hr hcb hlen hnd hI ih out) ?_ ts.length ⟨0, fun _ _ => rfl, g8, g9, by omega, rfl, Frm.refl _⟩
  rintro f w ⟨j, hold, f8, f9, hj, hq, hf⟩
  obtain rfl : j = ts.length := by omega
  rw [List.take_of_length_le (Nat.le_refl _)] at f8
  exact after f w hold f8 hf
end Go.Proofs.YtjidefnbancmfaaDoor

/- Constants: the law of the table, its loop over the list. -/
set_option linter.unusedVariables false
set_option maxRecDepth 10000
set_option linter.unusedSimpArgs false
namespace Go.Proofs.YtjidefnbancmfaaDoor
open Go.AE Delphi
variable {tab : Tab}
theorem numF_ge : ∀ {l : List Tk} {k : Nat} {c : Tk} {v : Nat}, aget (numF k l) c = some v → k ≤ v
  | [], k, c, v, h => by simp [numF, aget] at h
  | x :: l, k, c, v, h => by
    simp only [numF, aget] at h
    split at h
    · cases h; exact Nat.le_refl _
    · have := numF_ge h; omega
theorem posOf_pos {l : List Tk} {c : Tk} (h : c ∈ l) : posOf l c ≠ 0 := by
  have := numF_ge (posOf_in h); omega
structure VtW (aw : AW) (tb mb : Nat) (v hv : V) (S S2 : Nat → Prop) (ts : List Tk) (w : AW) : Prop where
  t : TabW tb mb v S ts w
  b : Bt S2 w hv 3 ts.length (tksC ts)
  s : ∀ x, S x → aw.next ≤ x
  s2 : ∀ x, S2 x → aw.next ≤ x ∧ x < w.next ∧ ¬ S x ∧ x ≠ tb ∧ x ≠ mb
  tb : aw.next ≤ tb
  mb : aw.next ≤ mb
  f : Frm (fun _ => False) aw w
  nd : ts.Nodup
  may : ∀ t ∈ ts, tkMay t = true
theorem VtW.step {aw : AW} {tb mb : Nat} {v hv : V} {S S2 : Nat → Prop} {ts : List Tk} {w w' : AW} (h : VtW aw tb mb v hv S S2 ts w) (hf : Frm (fun _ => False) w w') : VtW aw tb mb v hv S S2 ts w' :=
  ⟨h.t.step0 hf, h.b.frm hf (fun _ _ h => h), h.s, fun x hx => by obtain ⟨a, b, c⟩ := h.s2 x hx; exact ⟨a, Nat.lt_of_lt_of_le b hf.next, c⟩, h.tb, h.mb, h.f.tr hf, h.nd, h.may⟩
def VtI (aw : AW) (tb mb : Nat) (lv : V) (n : Nat) (q : Nat) (f : Fr) (w : AW) : Prop :=
  ∃ i v hv S S2 ts, f.get 0 = some lv ∧ f.get 4 = some (.ptr tb 0) ∧ f.get 5 = some hv ∧ f.get 6 = some (.int .i64 (Int.ofNat i)) ∧ VtW aw tb mb v hv S S2 ts w ∧ ts.length ≤ i ∧ i ≤ 40 ∧ i ≤ n ∧ q = 40 - i
theorem vt_step (C : Codes tab) {aw : AW} {tb mb : Nat} {lv : V} {args : List Tk} {q : Nat} {f : Fr} {w : AW} {s : List SI} {Q : Fr → AW → Prop}
    (hr : Rd (fun b => b < aw.next) aw lv 3 args.length (tksC args)) (hby : ∀ t ∈ args, ∀ c ∈ t.s, c < 256)
    (hI : VtI aw tb mb lv args.length q f w) (ih : ∀ n' f' w', n' < q → VtI aw tb mb lv args.length n' f' w' → WS tab (.code (.loop k_law6_ValueTable_p4) :: .endB 0 :: s) f' w' Q)
    (out : ∀ s' f' w', (∃ q, VtI aw tb mb lv args.length q f' w') → popTo 0 s' = some s → WS tab (.code (.exit 0) :: s') f' w' Q) : WS tab (.code k_law6_ValueTable_p4 :: .code (.loop k_law6_ValueTable_p4) :: .endB 0 :: s) f w Q := by
  obtain ⟨i, v, hv, S, S2, ts, f0, f4, f5, f6, hW, htl, h40, hi, rfl⟩ := hI
  have hrw := hr.frm hW.f fun _ _ h => h
  have hlv := hrw.lenV
  by_cases hlt : i < args.length
  case neg =>
    refine WS_runB 1000 (by simp only [go_sem, Nat.reduceAdd, Nat.reduceLT, Nat.reduceEqDiff, reduceIte, reduceCtorEq, Int.reduceBEq, Int.reduceBNe, Int.reduceLT, Int.reduceLE, Int.reduceGT, Int.reduceGE, Int.reduceEq, Int.reduceAdd, Int.reduceSub, Int.reduceMul, Nat.reduceMul, Nat.reduceSub, Nat.reduceLeDiff, k_law6_ValueTable_p4, f0, f6, hlv, hlt]; rfl) ?_
    exact out _ _ _ ⟨_, i, v, hv, S, S2, ts, (by simp only [go_sem, eRun_exit, Nat.reduceAdd, Nat.reduceLT, Nat.reduceEqDiff, reduceIte, reduceCtorEq, Int.reduceBEq, Int.reduceBNe, Int.reduceLT, Int.reduceLE, Int.reduceGT, Int.reduceGE, Int.reduceEq, Int.reduceAdd, Int.reduceSub, Int.reduceMul, Nat.reduceMul, Nat.reduceSub, Nat.reduceLeDiff, f0] <;> rfl), (by simp only [go_sem, eRun_exit, Nat.reduceAdd, Nat.reduceLT, Nat.reduceEqDiff, reduceIte, reduceCtorEq, Int.reduceBEq, Int.reduceBNe, Int.reduceLT, Int.reduceLE, Int.reduceGT, Int.reduceGE, Int.reduceEq, Int.reduceAdd, Int.reduceSub, Int.reduceMul, Nat.reduceMul, Nat.reduceSub, Nat.reduceLeDiff, f4] <;> rfl), (by simp only [go_sem, eRun_exit, Nat.reduceAdd, Nat.reduceLT, Nat.reduceEqDiff, reduceIte, reduceCtorEq, Int.reduceBEq, Int.reduceBNe, Int.reduceLT, Int.reduceLE, Int.reduceGT, Int.reduceGE, Int.reduceEq, Int.reduceAdd, Int.reduceSub, Int.reduceMul, Nat.reduceMul, Nat.reduceSub, Nat.reduceLeDiff, f5] <;> rfl), (by simp only [go_sem, eRun_exit, Nat.reduceAdd, Nat.reduceLT, Nat.reduceEqDiff, reduceIte, reduceCtorEq, Int.reduceBEq, Int.reduceBNe, Int.reduceLT, Int.reduceLE, Int.reduceGT, Int.reduceGE, Int.reduceEq, Int.reduceAdd, Int.reduceSub, Int.reduceMul, Nat.reduceMul, Nat.reduceSub, Nat.reduceLeDiff, f6] <;> rfl), hW, htl, h40, hi, rfl⟩ rfl
  by_cases hl40 : i < 40
  case neg =>
    refine WS_runB 1000 (by simp only [go_sem, Nat.reduceAdd, Nat.reduceLT, Nat.reduceEqDiff, reduceIte, reduceCtorEq, Int.reduceBEq, Int.reduceBNe, Int.reduceLT, Int.reduceLE, Int.reduceGT, Int.reduceGE, Int.reduceEq, Int.reduceAdd, Int.reduceSub, Int.reduceMul, Nat.reduceMul, Nat.reduceSub, Nat.reduceLeDiff, k_law6_ValueTable_p4, f0, f6, hlv, hlt, hl40]; rfl) ?_
    exact out _ _ _ ⟨_, i, v, hv, S, S2, ts, (by simp only [go_sem, eRun_exit, Nat.reduceAdd, Nat.reduceLT, Nat.reduceEqDiff, reduceIte, reduceCtorEq, Int.reduceBEq, Int.reduceBNe, Int.reduceLT, Int.reduceLE, Int.reduceGT, Int.reduceGE, Int.reduceEq, Int.reduceAdd, Int.reduceSub, Int.reduceMul, Nat.reduceMul, Nat.reduceSub, Nat.reduceLeDiff, f0] <;> rfl), (by simp only [go_sem, eRun_exit, Nat.reduceAdd, Nat.reduceLT, Nat.reduceEqDiff, reduceIte, reduceCtorEq, Int.reduceBEq, Int.reduceBNe, Int.reduceLT, Int.reduceLE, Int.reduceGT, Int.reduceGE, Int.reduceEq, Int.reduceAdd, Int.reduceSub, Int.reduceMul, Nat.reduceMul, Nat.reduceSub, Nat.reduceLeDiff, f4] <;> rfl), (by simp only [go_sem, eRun_exit, Nat.reduceAdd, Nat.reduceLT, Nat.reduceEqDiff, reduceIte, reduceCtorEq, Int.reduceBEq, Int.reduceBNe, Int.reduceLT, Int.reduceLE, Int.reduceGT, Int.reduceGE, Int.reduceEq, Int.reduceAdd, Int.reduceSub, Int.reduceMul, Nat.reduceMul, Nat.reduceSub, Nat.reduceLeDiff, f5] <;> rfl), (by simp only [go_sem, eRun_exit, Nat.reduceAdd, Nat.reduceLT, Nat.reduceEqDiff, reduceIte, reduceCtorEq, Int.reduceBEq, Int.reduceBNe, Int.reduceLT, Int.reduceLE, Int.reduceGT, Int.reduceGE, Int.reduceEq, Int.reduceAdd, Int.reduceSub, Int.reduceMul, Nat.reduceMul, Nat.reduceSub, Nat.reduceLeDiff, f6] <;> rfl), hW, htl, h40, hi, rfl⟩ rfl
  obtain ⟨t, ht⟩ : ∃ t, args[i]? = some t := ⟨_, List.getElem?_eq_getElem hlt⟩
  obtain ⟨b, o, cc, rfl, hTb, hbl, a3⟩ := tks_at hrw ht
  have hwr : IntKind.wrap .i64 (Int.ofNat i + 1) = Int.ofNat (i + 1) := wrap_succ (by omega)
  refine WS_run 1000 (by simp only [go_sem, eRun_exit, Nat.reduceAdd, Nat.reduceLT, Nat.reduceEqDiff, reduceIte, reduceCtorEq, Int.reduceBEq, Int.reduceBNe, Int.reduceLT, Int.reduceLE, Int.reduceGT, Int.reduceGE, Int.reduceEq, Int.reduceAdd, Int.reduceSub, Int.reduceMul, Nat.reduceMul, Nat.reduceSub, Nat.reduceLeDiff, k_law6_ValueTable_p4, k_law6_ValueTable_p3, f0, f6, hlv, hlt, hl40, a3]; rfl) ?_
  refine WS_call (by simp only [go_sem, eRun_exit, Nat.reduceAdd, Nat.reduceLT, Nat.reduceEqDiff, reduceIte, reduceCtorEq, Int.reduceBEq, Int.reduceBNe, Int.reduceLT, Int.reduceLE, Int.reduceGT, Int.reduceGE, Int.reduceEq, Int.reduceAdd, Int.reduceSub, Int.reduceMul, Nat.reduceMul, Nat.reduceSub, Nat.reduceLeDiff]) (by simp only [go_sem, eRun_exit, Nat.reduceAdd, Nat.reduceLT, Nat.reduceEqDiff, reduceIte, reduceCtorEq, Int.reduceBEq, Int.reduceBNe, Int.reduceLT, Int.reduceLE, Int.reduceGT, Int.reduceGE, Int.reduceEq, Int.reduceAdd, Int.reduceSub, Int.reduceMul, Nat.reduceMul, Nat.reduceSub, Nat.reduceLeDiff]; rfl) ?_
  refine cutT_ok C fun w3 g3 => ?_
  have hk := cut_tk (hby t (List.mem_of_getElem? ht))
  generalize tkCut t = c at *
  obtain ⟨w4, s4, c4, g4, n4⟩ := boxed w3 (zs := [V.int .i64 0, V.str [], V.int .i64 0]) (vs := tkC c) rfl rfl
  have hW4 := (hW.step g3).step g4
  refine WS_run 1000 (by simp only [go_sem, eRun_exit, Nat.reduceAdd, Nat.reduceLT, Nat.reduceEqDiff, reduceIte, reduceCtorEq, Int.reduceBEq, Int.reduceBNe, Int.reduceLT, Int.reduceLE, Int.reduceGT, Int.reduceGE, Int.reduceEq, Int.reduceAdd, Int.reduceSub, Int.reduceMul, Nat.reduceMul, Nat.reduceSub, Nat.reduceLeDiff, s4, tkC_len]; rfl) ?_
  refine vj_loop C hW4.b.rd c4 (by omega) hW4.nd (by simp only [go_sem, eRun_exit, Nat.reduceAdd, Nat.reduceLT, Nat.reduceEqDiff, reduceIte, reduceCtorEq, Int.reduceBEq, Int.reduceBNe, Int.reduceLT, Int.reduceLE, Int.reduceGT, Int.reduceGE, Int.reduceEq, Int.reduceAdd, Int.reduceSub, Int.reduceMul, Nat.reduceMul, Nat.reduceSub, Nat.reduceLeDiff, f5] <;> rfl) (by simp only [go_sem, eRun_exit, Nat.reduceAdd, Nat.reduceLT, Nat.reduceEqDiff, reduceIte, reduceCtorEq, Int.reduceBEq, Int.reduceBNe, Int.reduceLT, Int.reduceLE, Int.reduceGT, Int.reduceGE, Int.reduceEq, Int.reduceAdd, Int.reduceSub, Int.reduceMul, Nat.reduceMul, Nat.reduceSub, Nat.reduceLeDiff] <;> rfl) (by simp only [go_sem, eRun_exit, Nat.reduceAdd, Nat.reduceLT, Nat.reduceEqDiff, reduceIte, reduceCtorEq, Int.reduceBEq, Int.reduceBNe, Int.reduceLT, Int.reduceLE, Int.reduceGT, Int.reduceGE, Int.reduceEq, Int.reduceAdd, Int.reduceSub, Int.reduceMul, Nat.reduceMul, Nat.reduceSub, Nat.reduceLeDiff] <;> rfl) (by simp only [go_sem, eRun_exit, Nat.reduceAdd, Nat.reduceLT, Nat.reduceEqDiff, reduceIte, reduceCtorEq, Int.reduceBEq, Int.reduceBNe, Int.reduceLT, Int.reduceLE, Int.reduceGT, Int.reduceGE, Int.reduceEq, Int.reduceAdd, Int.reduceSub, Int.reduceMul, Nat.reduceMul, Nat.reduceSub, Nat.reduceLeDiff] <;> rfl) fun f5' w5 hold g8 g5 => ?_
  have e0 := (hold 0 (by simp)).trans (by simp only [go_sem, eRun_exit, Nat.reduceAdd, Nat.reduceLT, Nat.reduceEqDiff, reduceIte, reduceCtorEq, Int.reduceBEq, Int.reduceBNe, Int.reduceLT, Int.reduceLE, Int.reduceGT, Int.reduceGE, Int.reduceEq, Int.reduceAdd, Int.reduceSub, Int.reduceMul, Nat.reduceMul, Nat.reduceSub, Nat.reduceLeDiff, f0] <;> rfl)
  have e4 := (hold 4 (by simp)).trans (by simp only [go_sem, eRun_exit, Nat.reduceAdd, Nat.reduceLT, Nat.reduceEqDiff, reduceIte, reduceCtorEq, Int.reduceBEq, Int.reduceBNe, Int.reduceLT, Int.reduceLE, Int.reduceGT, Int.reduceGE, Int.reduceEq, Int.reduceAdd, Int.reduceSub, Int.reduceMul, Nat.reduceMul, Nat.reduceSub, Nat.reduceLeDiff, f4] <;> rfl)
  have e5 := (hold 5 (by simp)).trans (by simp only [go_sem, eRun_exit, Nat.reduceAdd, Nat.reduceLT, Nat.reduceEqDiff, reduceIte, reduceCtorEq, Int.reduceBEq, Int.reduceBNe, Int.reduceLT, Int.reduceLE, Int.reduceGT, Int.reduceGE, Int.reduceEq, Int.reduceAdd, Int.reduceSub, Int.reduceMul, Nat.reduceMul, Nat.reduceSub, Nat.reduceLeDiff, f5] <;> rfl)
  have e6 := (hold 6 (by simp)).trans (by simp only [go_sem, eRun_exit, Nat.reduceAdd, Nat.reduceLT, Nat.reduceEqDiff, reduceIte, reduceCtorEq, Int.reduceBEq, Int.reduceBNe, Int.reduceLT, Int.reduceLE, Int.reduceGT, Int.reduceGE, Int.reduceEq, Int.reduceAdd, Int.reduceSub, Int.reduceMul, Nat.reduceMul, Nat.reduceSub, Nat.reduceLeDiff, f6] <;> rfl)
  have e7 := (hold 7 (by simp)).trans (by simp only [go_sem, eRun_exit, Nat.reduceAdd, Nat.reduceLT, Nat.reduceEqDiff, reduceIte, reduceCtorEq, Int.reduceBEq, Int.reduceBNe, Int.reduceLT, Int.reduceLE, Int.reduceGT, Int.reduceGE, Int.reduceEq, Int.reduceAdd, Int.reduceSub, Int.reduceMul, Nat.reduceMul, Nat.reduceSub, Nat.reduceLeDiff] <;> rfl)
  have hW5 := hW4.step g5
  have c5 := c4.frm g5 fun h => h
  have k5 := c5.all (n := 3) rfl
  by_cases hin : c ∈ ts
  · have hmc := hW.may c hin
    have hp0 := posOf_pos hin
    refine WS_run 1000 (by simp only [go_sem, eRun_exit, Nat.reduceAdd, Nat.reduceLT, Nat.reduceEqDiff, reduceIte, reduceCtorEq, Int.reduceBEq, Int.reduceBNe, Int.reduceLT, Int.reduceLE, Int.reduceGT, Int.reduceGE, Int.reduceEq, Int.reduceAdd, Int.reduceSub, Int.reduceMul, Nat.reduceMul, Nat.reduceSub, Nat.reduceLeDiff, e4, e7, g8, hp0, k5]; rfl) ?_
    refine WS_call (by simp only [go_sem, eRun_exit, Nat.reduceAdd, Nat.reduceLT, Nat.reduceEqDiff, reduceIte, reduceCtorEq, Int.reduceBEq, Int.reduceBNe, Int.reduceLT, Int.reduceLE, Int.reduceGT, Int.reduceGE, Int.reduceEq, Int.reduceAdd, Int.reduceSub, Int.reduceMul, Nat.reduceMul, Nat.reduceSub, Nat.reduceLeDiff]) (by simp only [go_sem, eRun_exit, Nat.reduceAdd, Nat.reduceLT, Nat.reduceEqDiff, reduceIte, reduceCtorEq, Int.reduceBEq, Int.reduceBNe, Int.reduceLT, Int.reduceLE, Int.reduceGT, Int.reduceGE, Int.reduceEq, Int.reduceAdd, Int.reduceSub, Int.reduceMul, Nat.reduceMul, Nat.reduceSub, Nat.reduceLeDiff]; rfl) ?_
    refine id_ok C hW5.t (by omega) hk (fun h => by rw [hmc] at h; cases h) (fun _ _ w6 g6 => ?_) (fun _ h => (h hin).elim)
    have hW6 := hW5.step g6
    have hlv6 := hW6.b.lenV
    refine WS_run 1000 (by simp only [go_sem, eRun_exit, Nat.reduceAdd, Nat.reduceLT, Nat.reduceEqDiff, reduceIte, reduceCtorEq, Int.reduceBEq, Int.reduceBNe, Int.reduceLT, Int.reduceLE, Int.reduceGT, Int.reduceGE, Int.reduceEq, Int.reduceAdd, Int.reduceSub, Int.reduceMul, Nat.reduceMul, Nat.reduceSub, Nat.reduceLeDiff, e4, g8]; rfl) ?_
    refine WS_call (by simp only [go_sem, eRun_exit, Nat.reduceAdd, Nat.reduceLT, Nat.reduceEqDiff, reduceIte, reduceCtorEq, Int.reduceBEq, Int.reduceBNe, Int.reduceLT, Int.reduceLE, Int.reduceGT, Int.reduceGE, Int.reduceEq, Int.reduceAdd, Int.reduceSub, Int.reduceMul, Nat.reduceMul, Nat.reduceSub, Nat.reduceLeDiff]) (by simp only [go_sem, eRun_exit, Nat.reduceAdd, Nat.reduceLT, Nat.reduceEqDiff, reduceIte, reduceCtorEq, Int.reduceBEq, Int.reduceBNe, Int.reduceLT, Int.reduceLE, Int.reduceGT, Int.reduceGE, Int.reduceEq, Int.reduceAdd, Int.reduceSub, Int.reduceMul, Nat.reduceMul, Nat.reduceSub, Nat.reduceLeDiff]; rfl) ?_
    refine len_ok C hW6.t ?_
    refine WS_run 1000 (by simp only [go_sem, eRun_exit, Nat.reduceAdd, Nat.reduceLT, Nat.reduceEqDiff, reduceIte, reduceCtorEq, Int.reduceBEq, Int.reduceBNe, Int.reduceLT, Int.reduceLE, Int.reduceGT, Int.reduceGE, Int.reduceEq, Int.reduceAdd, Int.reduceSub, Int.reduceMul, Nat.reduceMul, Nat.reduceSub, Nat.reduceLeDiff, e5, hlv6, e6, hwr]; rfl) ?_
    exact ih _ _ _ (by omega) ⟨i + 1, v, hv, S, S2, ts, (by simp only [go_sem, eRun_exit, Nat.reduceAdd, Nat.reduceLT, Nat.reduceEqDiff, reduceIte, reduceCtorEq, Int.reduceBEq, Int.reduceBNe, Int.reduceLT, Int.reduceLE, Int.reduceGT, Int.reduceGE, Int.reduceEq, Int.reduceAdd, Int.reduceSub, Int.reduceMul, Nat.reduceMul, Nat.reduceSub, Nat.reduceLeDiff, e0] <;> rfl), (by simp only [go_sem, eRun_exit, Nat.reduceAdd, Nat.reduceLT, Nat.reduceEqDiff, reduceIte, reduceCtorEq, Int.reduceBEq, Int.reduceBNe, Int.reduceLT, Int.reduceLE, Int.reduceGT, Int.reduceGE, Int.reduceEq, Int.reduceAdd, Int.reduceSub, Int.reduceMul, Nat.reduceMul, Nat.reduceSub, Nat.reduceLeDiff, e4] <;> rfl), (by simp only [go_sem, eRun_exit, Nat.reduceAdd, Nat.reduceLT, Nat.reduceEqDiff, reduceIte, reduceCtorEq, Int.reduceBEq, Int.reduceBNe, Int.reduceLT, Int.reduceLE, Int.reduceGT, Int.reduceGE, Int.reduceEq, Int.reduceAdd, Int.reduceSub, Int.reduceMul, Nat.reduceMul, Nat.reduceSub, Nat.reduceLeDiff, e5] <;> rfl), (by simp only [go_sem, eRun_exit, Nat.reduceAdd, Nat.reduceLT, Nat.reduceEqDiff, reduceIte, reduceCtorEq, Int.reduceBEq, Int.reduceBNe, Int.reduceLT, Int.reduceLE, Int.reduceGT, Int.reduceGE, Int.reduceEq, Int.reduceAdd, Int.reduceSub, Int.reduceMul, Nat.reduceMul, Nat.reduceSub, Nat.reduceLeDiff] <;> rfl), hW6, by omega, by omega, by omega, rfl⟩
  · rw [posOf_not hin] at g8
    have g8 : f5'.get 8 = some (.int .i64 0) := g8
    refine WS_run 1000 (by simp only [go_sem, eRun_exit, Nat.reduceAdd, Nat.reduceLT, Nat.reduceEqDiff, reduceIte, reduceCtorEq, Int.reduceBEq, Int.reduceBNe, Int.reduceLT, Int.reduceLE, Int.reduceGT, Int.reduceGE, Int.reduceEq, Int.reduceAdd, Int.reduceSub, Int.reduceMul, Nat.reduceMul, Nat.reduceSub, Nat.reduceLeDiff, g8, e7, k5]; rfl) ?_
    refine WS_call (by simp only [go_sem, eRun_exit, Nat.reduceAdd, Nat.reduceLT, Nat.reduceEqDiff, reduceIte, reduceCtorEq, Int.reduceBEq, Int.reduceBNe, Int.reduceLT, Int.reduceLE, Int.reduceGT, Int.reduceGE, Int.reduceEq, Int.reduceAdd, Int.reduceSub, Int.reduceMul, Nat.reduceMul, Nat.reduceSub, Nat.reduceLeDiff]) (by simp only [go_sem, eRun_exit, Nat.reduceAdd, Nat.reduceLT, Nat.reduceEqDiff, reduceIte, reduceCtorEq, Int.reduceBEq, Int.reduceBNe, Int.reduceLT, Int.reduceLE, Int.reduceGT, Int.reduceGE, Int.reduceEq, Int.reduceAdd, Int.reduceSub, Int.reduceMul, Nat.reduceMul, Nat.reduceSub, Nat.reduceLeDiff]; rfl) ?_
    refine mayTerm_ok C hk fun w6 g6 => ?_
    have hW6 := hW5.step g6
    have c6 := c5.frm g6 fun h => h
    have k6 := c6.all (n := 3) rfl
    cases hmc : tkMay c with
    | false =>
      refine WS_run 1000 (by simp only [go_sem, eRun_exit, Nat.reduceAdd, Nat.reduceLT, Nat.reduceEqDiff, reduceIte, reduceCtorEq, Int.reduceBEq, Int.reduceBNe, Int.reduceLT, Int.reduceLE, Int.reduceGT, Int.reduceGE, Int.reduceEq, Int.reduceAdd, Int.reduceSub, Int.reduceMul, Nat.reduceMul, Nat.reduceSub, Nat.reduceLeDiff, e4, e7, k6]; rfl) ?_
      refine WS_call (by simp only [go_sem, eRun_exit, Nat.reduceAdd, Nat.reduceLT, Nat.reduceEqDiff, reduceIte, reduceCtorEq, Int.reduceBEq, Int.reduceBNe, Int.reduceLT, Int.reduceLE, Int.reduceGT, Int.reduceGE, Int.reduceEq, Int.reduceAdd, Int.reduceSub, Int.reduceMul, Nat.reduceMul, Nat.reduceSub, Nat.reduceLeDiff]) (by simp only [go_sem, eRun_exit, Nat.reduceAdd, Nat.reduceLT, Nat.reduceEqDiff, reduceIte, reduceCtorEq, Int.reduceBEq, Int.reduceBNe, Int.reduceLT, Int.reduceLE, Int.reduceGT, Int.reduceGE, Int.reduceEq, Int.reduceAdd, Int.reduceSub, Int.reduceMul, Nat.reduceMul, Nat.reduceSub, Nat.reduceLeDiff]; rfl) ?_
      refine id_ok C hW6.t (by omega) hk (fun _ w7 g7 => ?_) (fun h => by rw [hmc] at h; cases h) (fun h => by rw [hmc] at h; cases h)
      have hW7 := hW6.step g7
      have hlv7 := hW7.b.lenV
      refine WS_run 1000 (by simp only [go_sem, eRun_exit, Nat.reduceAdd, Nat.reduceLT, Nat.reduceEqDiff, reduceIte, reduceCtorEq, Int.reduceBEq, Int.reduceBNe, Int.reduceLT, Int.reduceLE, Int.reduceGT, Int.reduceGE, Int.reduceEq, Int.reduceAdd, Int.reduceSub, Int.reduceMul, Nat.reduceMul, Nat.reduceSub, Nat.reduceLeDiff, e4, g8]; rfl) ?_
      refine WS_call (by simp only [go_sem, eRun_exit, Nat.reduceAdd, Nat.reduceLT, Nat.reduceEqDiff, reduceIte, reduceCtorEq, Int.reduceBEq, Int.reduceBNe, Int.reduceLT, Int.reduceLE, Int.reduceGT, Int.reduceGE, Int.reduceEq, Int.reduceAdd, Int.reduceSub, Int.reduceMul, Nat.reduceMul, Nat.reduceSub, Nat.reduceLeDiff]) (by simp only [go_sem, eRun_exit, Nat.reduceAdd, Nat.reduceLT, Nat.reduceEqDiff, reduceIte, reduceCtorEq, Int.reduceBEq, Int.reduceBNe, Int.reduceLT, Int.reduceLE, Int.reduceGT, Int.reduceGE, Int.reduceEq, Int.reduceAdd, Int.reduceSub, Int.reduceMul, Nat.reduceMul, Nat.reduceSub, Nat.reduceLeDiff]; rfl) ?_
      refine len_ok C hW7.t ?_
      refine WS_run 1000 (by simp only [go_sem, eRun_exit, Nat.reduceAdd, Nat.reduceLT, Nat.reduceEqDiff, reduceIte, reduceCtorEq, Int.reduceBEq, Int.reduceBNe, Int.reduceLT, Int.reduceLE, Int.reduceGT, Int.reduceGE, Int.reduceEq, Int.reduceAdd, Int.reduceSub, Int.reduceMul, Nat.reduceMul, Nat.reduceSub, Nat.reduceLeDiff, e5, hlv7, e6, hwr]; rfl) ?_
      exact ih _ _ _ (by omega) ⟨i + 1, v, hv, S, S2, ts, (by simp only [go_sem, eRun_exit, Nat.reduceAdd, Nat.reduceLT, Nat.reduceEqDiff, reduceIte, reduceCtorEq, Int.reduceBEq, Int.reduceBNe, Int.reduceLT, Int.reduceLE, Int.reduceGT, Int.reduceGE, Int.reduceEq, Int.reduceAdd, Int.reduceSub, Int.reduceMul, Nat.reduceMul, Nat.reduceSub, Nat.reduceLeDiff, e0] <;> rfl), (by simp only [go_sem, eRun_exit, Nat.reduceAdd, Nat.reduceLT, Nat.reduceEqDiff, reduceIte, reduceCtorEq, Int.reduceBEq, Int.reduceBNe, Int.reduceLT, Int.reduceLE, Int.reduceGT, Int.reduceGE, Int.reduceEq, Int.reduceAdd, Int.reduceSub, Int.reduceMul, Nat.reduceMul, Nat.reduceSub, Nat.reduceLeDiff, e4] <;> rfl), (by simp only [go_sem, eRun_exit, Nat.reduceAdd, Nat.reduceLT, Nat.reduceEqDiff, reduceIte, reduceCtorEq, Int.reduceBEq, Int.reduceBNe, Int.reduceLT, Int.reduceLE, Int.reduceGT, Int.reduceGE, Int.reduceEq, Int.reduceAdd, Int.reduceSub, Int.reduceMul, Nat.reduceMul, Nat.reduceSub, Nat.reduceLeDiff, e5] <;> rfl), (by simp only [go_sem, eRun_exit, Nat.reduceAdd, Nat.reduceLT, Nat.reduceEqDiff, reduceIte, reduceCtorEq, Int.reduceBEq, Int.reduceBNe, Int.reduceLT, Int.reduceLE, Int.reduceGT, Int.reduceGE, Int.reduceEq, Int.reduceAdd, Int.reduceSub, Int.reduceMul, Nat.reduceMul, Nat.reduceSub, Nat.reduceLeDiff] <;> rfl), hW7, by omega, by omega, by omega, rfl⟩
    | true =>
      have g7 := fresh_frm (S := fun _ => False) w6 (tkC c)
      have n7 : (w6.fresh (tkC c)).next = w6.next + 1 := rfl
      have hW7 := hW6.step g7
      have hel : (w6.fresh (tkC c)).elems 3 (.slice w6.next 0 1 (.known 1)) = some (1, tkC c) := elems_fresh (by omega) rfl
      have hov : over [V.int .i64 0, V.str [], V.int .i64 0] 0 (tkC c) = some (tkC c) := rfl
      obtain ⟨hv', w8, S8, u1, u2, u3, u4⟩ := hW7.b.addN (news := tkC c) (k := 1) (bytes := 32) (by omega) rfl rfl (by omega) (by omega)
      have hT8 := hW7.t.step u3 (fun h => (hW7.s2 _ h).2.2.2.1 rfl) (fun h => (hW7.s2 _ h).2.2.2.2 rfl) (fun x hx h => (hW7.s2 _ h).2.2.1 hx)
      have c8 := (c6.frm g7 fun h => h).frm u3 fun h => by have := (hW.s2 _ h).2.1; have := g3.next; omega
      have k8 := c8.all (n := 3) rfl
      have hlv8 := u2.lenV
      refine WS_run 1000 (by simp only [go_sem, eRun_exit, Nat.reduceAdd, Nat.reduceLT, Nat.reduceEqDiff, reduceIte, reduceCtorEq, Int.reduceBEq, Int.reduceBNe, Int.reduceLT, Int.reduceLE, Int.reduceGT, Int.reduceGE, Int.reduceEq, Int.reduceAdd, Int.reduceSub, Int.reduceMul, Nat.reduceMul, Nat.reduceSub, Nat.reduceLeDiff, k_law6_ValueTable_p2, e4, e5, e7, k6, tkC_len, evParts, fillV, hov, List.length_cons, List.length_nil, hel, u1, hlv8, k8]; rfl) ?_
      refine WS_call (by simp only [go_sem, eRun_exit, Nat.reduceAdd, Nat.reduceLT, Nat.reduceEqDiff, reduceIte, reduceCtorEq, Int.reduceBEq, Int.reduceBNe, Int.reduceLT, Int.reduceLE, Int.reduceGT, Int.reduceGE, Int.reduceEq, Int.reduceAdd, Int.reduceSub, Int.reduceMul, Nat.reduceMul, Nat.reduceSub, Nat.reduceLeDiff]) (by simp only [go_sem, eRun_exit, Nat.reduceAdd, Nat.reduceLT, Nat.reduceEqDiff, reduceIte, reduceCtorEq, Int.reduceBEq, Int.reduceBNe, Int.reduceLT, Int.reduceLE, Int.reduceGT, Int.reduceGE, Int.reduceEq, Int.reduceAdd, Int.reduceSub, Int.reduceMul, Nat.reduceMul, Nat.reduceSub, Nat.reduceLeDiff]; rfl) ?_
      refine id_ok C hT8 (by omega) hk (fun h => by rw [hmc] at h; cases h) (fun _ h => (hin h).elim) (fun _ _ w9 v' S9 hT9 g9 q9 => ?_)
      have hn6 : w.next ≤ w6.next := Nat.le_trans (Nat.le_trans (Nat.le_trans g3.next g4.next) g5.next) g6.next
      have hta := hW.t.a.lt
      have hma := hW.t.m.lt
      have sep : ∀ x, S8 x → ¬ (S x ∨ x = tb ∨ x = mb) := fun x hx h => by
        rcases (u4 x hx).2 with h2 | h2
        · obtain ⟨a1, a2, a3, a4, a5⟩ := hW.s2 x h2
          rcases h with h | h | h
          · exact a3 h
          · exact a4 h
          · exact a5 h
        · rcases h with h | h | h
          · have := (hW.t.s x h).1; omega
          · omega
          · omega
      have b9 : Bt S8 w9 hv' 3 (ts.length + 1) (tksC ts ++ tkC c) := u2.frm g9 sep
      have hlv9 := b9.lenV
      refine WS_run 1000 (by simp only [go_sem, eRun_exit, Nat.reduceAdd, Nat.reduceLT, Nat.reduceEqDiff, reduceIte, reduceCtorEq, Int.reduceBEq, Int.reduceBNe, Int.reduceLT, Int.reduceLE, Int.reduceGT, Int.reduceGE, Int.reduceEq, Int.reduceAdd, Int.reduceSub, Int.reduceMul, Nat.reduceMul, Nat.reduceSub, Nat.reduceLeDiff, e4]; rfl) ?_
      refine WS_call (by simp only [go_sem, eRun_exit, Nat.reduceAdd, Nat.reduceLT, Nat.reduceEqDiff, reduceIte, reduceCtorEq, Int.reduceBEq, Int.reduceBNe, Int.reduceLT, Int.reduceLE, Int.reduceGT, Int.reduceGE, Int.reduceEq, Int.reduceAdd, Int.reduceSub, Int.reduceMul, Nat.reduceMul, Nat.reduceSub, Nat.reduceLeDiff]) (by simp only [go_sem, eRun_exit, Nat.reduceAdd, Nat.reduceLT, Nat.reduceEqDiff, reduceIte, reduceCtorEq, Int.reduceBEq, Int.reduceBNe, Int.reduceLT, Int.reduceLE, Int.reduceGT, Int.reduceGE, Int.reduceEq, Int.reduceAdd, Int.reduceSub, Int.reduceMul, Nat.reduceMul, Nat.reduceSub, Nat.reduceLeDiff]; rfl) ?_
      refine len_ok C hT9 ?_
      have hll : (ts ++ [c]).length = ts.length + 1 := by rw [List.length_append]; rfl
      refine WS_run 1000 (by simp only [go_sem, eRun_exit, Nat.reduceAdd, Nat.reduceLT, Nat.reduceEqDiff, reduceIte, reduceCtorEq, Int.reduceBEq, Int.reduceBNe, Int.reduceLT, Int.reduceLE, Int.reduceGT, Int.reduceGE, Int.reduceEq, Int.reduceAdd, Int.reduceSub, Int.reduceMul, Nat.reduceMul, Nat.reduceSub, Nat.reduceLeDiff, hlv9, e6, hwr, hll]; rfl) ?_
      have han := hW.f.next
      refine ih _ _ _ (by omega) ⟨i + 1, v', hv', S9, S8, ts ++ [c], (by simp only [go_sem, eRun_exit, Nat.reduceAdd, Nat.reduceLT, Nat.reduceEqDiff, reduceIte, reduceCtorEq, Int.reduceBEq, Int.reduceBNe, Int.reduceLT, Int.reduceLE, Int.reduceGT, Int.reduceGE, Int.reduceEq, Int.reduceAdd, Int.reduceSub, Int.reduceMul, Nat.reduceMul, Nat.reduceSub, Nat.reduceLeDiff, e0] <;> rfl), (by simp only [go_sem, eRun_exit, Nat.reduceAdd, Nat.reduceLT, Nat.reduceEqDiff, reduceIte, reduceCtorEq, Int.reduceBEq, Int.reduceBNe, Int.reduceLT, Int.reduceLE, Int.reduceGT, Int.reduceGE, Int.reduceEq, Int.reduceAdd, Int.reduceSub, Int.reduceMul, Nat.reduceMul, Nat.reduceSub, Nat.reduceLeDiff, e4] <;> rfl), (by simp only [go_sem, eRun_exit, Nat.reduceAdd, Nat.reduceLT, Nat.reduceEqDiff, reduceIte, reduceCtorEq, Int.reduceBEq, Int.reduceBNe, Int.reduceLT, Int.reduceLE, Int.reduceGT, Int.reduceGE, Int.reduceEq, Int.reduceAdd, Int.reduceSub, Int.reduceMul, Nat.reduceMul, Nat.reduceSub, Nat.reduceLeDiff] <;> rfl), (by simp only [go_sem, eRun_exit, Nat.reduceAdd, Nat.reduceLT, Nat.reduceEqDiff, reduceIte, reduceCtorEq, Int.reduceBEq, Int.reduceBNe, Int.reduceLT, Int.reduceLE, Int.reduceGT, Int.reduceGE, Int.reduceEq, Int.reduceAdd, Int.reduceSub, Int.reduceMul, Nat.reduceMul, Nat.reduceSub, Nat.reduceLeDiff] <;> rfl), ⟨hT9, ?_, fun x hx => ?_, fun x hx => ?_, hW.tb, hW.mb, ?_, ?_, ?_⟩, by omega, by omega, by omega, rfl⟩
      · have : tksC (ts ++ [c]) = tksC ts ++ tkC c := by simp [tksC]
        rw [this, hll]; exact b9
      · rcases q9 x hx with h | h
        · exact hW.s x h
        · have := u3.next; omega
      · have hs := sep x hx
        obtain ⟨m1, m2⟩ := u4 x hx
        refine ⟨?_, Nat.lt_of_lt_of_le m1 g9.next, fun h9 => ?_, fun h => hs (.inr (.inl h)), fun h => hs (.inr (.inr h))⟩
        · rcases m2 with m2 | m2
          · exact (hW.s2 x m2).1
          · omega
        · rcases q9 x h9 with h | h
          · exact hs (.inl h)
          · omega
      · refine (hW7.f.trans u3 (fun _ _ h => h) fun x hx h => by have := (hW.s2 x h).1; omega).trans g9 (fun _ _ h => h) fun x hx h => ?_
        rcases h with h | h | h
        · have := hW.s x h; omega
        · have := hW.tb; omega
        · have := hW.mb; omega
      · rw [List.nodup_append]
        refine ⟨hW.nd, by simp, ?_⟩
        intro a ha b hb e
        simp only [List.mem_cons, List.not_mem_nil, or_false] at hb
        subst hb; subst e; exact hin ha
      · intro t ht
        rcases List.mem_append.1 ht with h | h
        · exact hW.may t h
        · simp only [List.mem_cons, List.not_mem_nil, or_false] at h
          subst h; exact hmc
end Go.Proofs.YtjidefnbancmfaaDoor
