/- A part of the proof: XMany, PPar15, PPar16. -/
import Derived.Test.YtpbdojjfokelaaaDoorSdK
set_option linter.unusedVariables false
set_option linter.unusedSimpArgs false
set_option linter.unusedSectionVars false
namespace Delphi
open Go.AE
variable [Globs]
def tA : Tm := ⟨2, [97], 0⟩
theorem tA_w : TmW tA := .inr (.inl ⟨rfl, rfl⟩)
def kA (g : List Nat) : Tok := ⟨g, 1, [97]⟩
theorem rep_snoc {α : Type} (n : Nat) (a : α) : List.replicate (n + 1) a = List.replicate n a ++ [a] := by rw [List.replicate_succ']
theorem nmA {c : Nat} (h : isSmall c = true) : nameT [c] := ⟨c, [], rfl, h, fun x hx => by
  simp only [List.mem_cons, List.not_mem_nil, or_false] at hx; subst hx; simp [isNamed, h], by simp⟩
theorem k1_lx {g : List Nat} {c : Nat} {l : List Tok} {r : List Nat} (hg : Gap g) (hc : isSmall c = true) (hr : Ends isVarC (laidT l ++ r)) (h : LxAll l r) : LxAll (⟨g, 1, [c]⟩ :: l) r :=
  ⟨hg, by show [c] ≠ []; simp, (fun _ => by show [c].length ≤ 16; simp), lx_name (nmA hc) (ends_n hr).1, h⟩
def aR : Rl := ⟨⟨1, [112], [tA]⟩, []⟩
def aT : Nat → List Nat
  | 0 => []
  | n + 1 => aT n ++ [112, 40, 97, 41, 46, 32]
def limT : List Nat := [112, 32, 58, 45, 32, 113, 40, 97, 44, 98, 44, 99, 44, 100, 44, 101, 41, 46, 32]
def wrT : List Nat := [112, 40, 63, 32]
def limR : Rl := ⟨⟨1, [112], []⟩, [⟨1, [113], [tA, ⟨2, [98], 0⟩, ⟨2, [99], 0⟩, ⟨2, [100], 0⟩, ⟨2, [101], 0⟩]⟩]⟩
theorem aT_cons : ∀ n, aT (n + 1) = [112, 40, 97, 41, 46, 32] ++ aT n
  | 0 => rfl
  | n + 1 => by
    have e : aT (n + 2) = aT (n + 1) ++ [112, 40, 97, 41, 46, 32] := rfl
    rw [e]
    conv => lhs; rw [aT_cons n]
    simp only [aT, List.append_assoc]
theorem aT_len : ∀ n, (aT n).length = 6 * n
  | 0 => rfl
  | n + 1 => by simp only [aT, List.length_append, aT_len n, List.length_cons, List.length_nil]; omega
theorem aR_w : RlW aR := ⟨rfl, fun t ht => by simp only [aR, List.mem_cons, List.not_mem_nil, or_false] at ht; subst ht; exact tA_w, by simp [aR]⟩
theorem aR_l : RlL aR := ⟨by simp [aR], by simp [aR], by simp [aR]⟩
theorem limR_w : RlW limR := by
  refine ⟨rfl, by simp [limR], fun l hl => ?_⟩
  simp only [limR, List.mem_cons, List.not_mem_nil, or_false] at hl
  subst hl
  refine ⟨.inl (.inl rfl), fun t ht => ?_⟩
  simp only [List.mem_cons, List.not_mem_nil, or_false] at ht
  rcases ht with rfl | rfl | rfl | rfl | rfl <;> exact .inr (.inl ⟨rfl, rfl⟩)
theorem limR_l : ¬ RlL limR := fun h => by
  have := h.ls _ (by simp [limR]; rfl)
  simp [Four] at this
theorem scan_aT : ∀ (n at' : Nat) (r : List Nat), ∃ ws m, ws.map sW = (List.replicate n aR).flatMap (ruleW fmtI) ∧ scan at' (aT n ++ r) = (ws ++ (scan m r).1, (scan m r).2)
  | 0, at', r => ⟨[], at', rfl, rfl⟩
  | n + 1, at', r => by
    obtain ⟨ws, m, h1, h2⟩ := scan_laid [⟨[], 1, [112]⟩, sgK [] [40], kA [], sgK [] [41], sgK [] [46]] at' (32 :: (aT n ++ r))
      (k1_lx gap_nil (by decide) (ends_c (c := 40) (by decide)) (sgK_lx gap_nil (by decide) (k1_lx gap_nil (by decide) (ends_c (c := 41) (by decide)) (sgK_lx gap_nil (by decide) (sgK_lx gap_nil (by decide) trivial)))))
    have h10 : scan m (32 :: (aT n ++ r)) = scan (m + 1) (aT n ++ r) := gap32.scan m _
    obtain ⟨ws', m', h3, h4⟩ := scan_aT n (m + 1) r
    refine ⟨ws ++ ws', m', ?_, ?_⟩
    · rw [List.map_append, h1, h3, List.replicate_succ, List.flatMap_cons]; rfl
    · have e : aT (n + 1) ++ r = laidT [⟨[], 1, [112]⟩, sgK [] [40], kA [], sgK [] [41], sgK [] [46]] ++ 32 :: (aT n ++ r) := by
        rw [aT_cons, List.append_assoc]; rfl
      rw [e, h2, h10, h4, List.append_assoc]
theorem scan_limT (at' : Nat) (r : List Nat) : ∃ ws m, ws.map sW = ruleW fmtI limR ∧ scan at' (limT ++ r) = (ws ++ (scan m r).1, (scan m r).2) := by
  obtain ⟨ws, m, h1, h2⟩ := scan_laid [⟨[], 1, [112]⟩, sgK [32] [58, 45], ⟨[32], 1, [113]⟩, sgK [] [40], ⟨[], 1, [97]⟩, sgK [] [44], ⟨[], 1, [98]⟩, sgK [] [44], ⟨[], 1, [99]⟩, sgK [] [44], ⟨[], 1, [100]⟩, sgK [] [44], ⟨[], 1, [101]⟩, sgK [] [41], sgK [] [46]] at' (32 :: r)
    (k1_lx gap_nil (by decide) (ends_c (c := 32) (by decide)) (sgK_lx gap32 (by decide) (k1_lx gap32 (by decide) (ends_c (c := 40) (by decide)) (sgK_lx gap_nil (by decide) (k1_lx gap_nil (by decide) (ends_c (c := 44) (by decide)) (sgK_lx gap_nil (by decide) (k1_lx gap_nil (by decide) (ends_c (c := 44) (by decide)) (sgK_lx gap_nil (by decide) (k1_lx gap_nil (by decide) (ends_c (c := 44) (by decide)) (sgK_lx gap_nil (by decide) (k1_lx gap_nil (by decide) (ends_c (c := 44) (by decide)) (sgK_lx gap_nil (by decide) (k1_lx gap_nil (by decide) (ends_c (c := 41) (by decide)) (sgK_lx gap_nil (by decide) (sgK_lx gap_nil (by decide) trivial)))))))))))))))
  have h10 : scan m (32 :: r) = scan (m + 1) r := gap32.scan m _
  refine ⟨ws, m + 1, by rw [h1]; rfl, ?_⟩
  have e : limT ++ r = laidT [⟨[], 1, [112]⟩, sgK [32] [58, 45], ⟨[32], 1, [113]⟩, sgK [] [40], ⟨[], 1, [97]⟩, sgK [] [44], ⟨[], 1, [98]⟩, sgK [] [44], ⟨[], 1, [99]⟩, sgK [] [44], ⟨[], 1, [100]⟩, sgK [] [44], ⟨[], 1, [101]⟩, sgK [] [41], sgK [] [46]] ++ 32 :: r := rfl
  rw [e, h2, h10]
theorem scan_wrT (at' : Nat) (r : List Nat) : ∃ ws, ws.map sW = [⟨1, [112], 0⟩, sgn [40]] ∧ scan at' (wrT ++ r) = (ws, false) := by
  obtain ⟨ws, m, h1, h2⟩ := scan_laid [⟨[], 1, [112]⟩, sgK [] [40]] at' (63 :: 32 :: r) (k1_lx gap_nil (by decide) (ends_c (c := 40) (by decide)) (sgK_lx gap_nil (by decide) trivial))
  have h63 : scan m (63 :: 32 :: r) = ([], false) := by rw [scan_eq]; rfl
  refine ⟨ws, by rw [h1]; rfl, ?_⟩
  have e : wrT ++ r = laidT [⟨[], 1, [112]⟩, sgK [] [40]] ++ 63 :: 32 :: r := rfl
  rw [e, h2, h63]; simp
theorem aRs {n : Nat} : ∀ r ∈ List.replicate n aR, RlW r ∧ RlL r := fun r hr => by rw [(List.mem_replicate.1 hr).2]; exact ⟨aR_w, aR_l⟩
theorem first_limit {n : Nat} (hn : n ≤ 29) : (rProgram (aT n ++ limT ++ wrT)).2 = 8 := by
  have hl : (aT n ++ limT ++ wrT).length ≤ 4000 := by simp only [List.length_append, aT_len, limT, wrT, List.length_cons, List.length_nil]; omega
  obtain ⟨ws, m, h1, h2⟩ := scan_aT n 0 (limT ++ wrT)
  obtain ⟨ws2, m2, h3, h4⟩ := scan_limT m wrT
  obtain ⟨ws3, h5, h6⟩ := scan_wrT m2 []
  rw [List.append_nil] at h6
  rw [rProgram_ws hl, List.append_assoc, h2, h4, h6, ← rProg_sW]
  simp only
  rw [rProg_bad fmt_ok (rs := List.replicate n aR) (r := limR) aRs (by simp; omega) limR_w (.inl limR_l)]
  refine ⟨ws3.map sW, ?_⟩
  rw [List.drop_zero, List.map_append, List.map_append, h1, h3, List.flatMap_append, List.flatMap_singleton, List.append_assoc]
theorem first_thirty {n : Nat} (hn : n = 31) : (rProgram (aT n ++ wrT)).2 = 8 := by
  have hl : (aT n ++ wrT).length ≤ 4000 := by simp only [List.length_append, aT_len, wrT, List.length_cons, List.length_nil]; omega
  obtain ⟨ws, m, h1, h2⟩ := scan_aT n 0 wrT
  obtain ⟨ws3, h5, h6⟩ := scan_wrT m []
  rw [List.append_nil] at h6
  rw [rProgram_ws hl, h2, h6, ← rProg_sW]
  simp only
  rw [rProg_bad fmt_ok (rs := List.replicate 30 aR) (r := aR) aRs (by simp) aR_w (.inr (by simp))]
  refine ⟨ws3.map sW, ?_⟩
  rw [List.drop_zero, List.map_append, h1, ← rep_snoc, hn]
theorem first_wrong {n : Nat} (hn : n ≤ 29) : (rProgram (aT n ++ wrT ++ limT)).2 = 4 := by
  have hl : (aT n ++ wrT ++ limT).length ≤ 4000 := by simp only [List.length_append, aT_len, limT, wrT, List.length_cons, List.length_nil]; omega
  obtain ⟨ws, m, h1, h2⟩ := scan_aT n 0 (wrT ++ limT)
  obtain ⟨ws3, h5, h6⟩ := scan_wrT m limT
  rw [rProgram_ws hl, List.append_assoc, h2, h6, ← rProg_sW]
  simp only
  rw [List.map_append, h1, h5]
  generalize hw : (List.replicate n aR).flatMap (ruleW fmtI) ++ [⟨1, [112], 0⟩, sgn [40]] = w
  have hlen : w.length = ((List.replicate n aR).flatMap (ruleW fmtI)).length + 2 := by rw [← hw]; simp
  have hr := rulesW_len (fm := fmtI) (List.replicate n aR)
  rw [List.length_replicate] at hr
  have hA : At w 0 ((List.replicate n aR).flatMap (ruleW fmtI)) := ⟨[⟨1, [112], 0⟩, sgn [40]], by rw [List.drop_zero, hw]⟩
  have hB : At w (0 + ((List.replicate n aR).flatMap (ruleW fmtI)).length) [⟨1, [112], 0⟩, sgn [40]] := by
    refine ⟨[], ?_⟩
    rw [← hw, Nat.zero_add, List.drop_left, List.append_nil]
  obtain ⟨n', g1, g2⟩ := rRules_at fmt_ok (List.replicate n aR) (w.length + 1) [] 0 aRs (Nat.zero_le _) hA (by rw [List.length_replicate]; omega) (by simp; omega)
  rw [List.length_replicate] at g2
  obtain ⟨n'', rfl⟩ : ∃ q, n' = q + 1 := ⟨n' - 1, by omega⟩
  generalize hk : 0 + ((List.replicate n aR).flatMap (ruleW fmtI)).length = k at g1 hB
  obtain ⟨b1, b2⟩ := hB.head
  obtain ⟨b3, _⟩ := b2.head
  have hkl : w.length = k + 2 := by omega
  have hcl : (rClause w k 0).2.2 = 4 := by
    have hnx : rNext w k 0 = some ⟨1, [112], 0⟩ := by unfold rNext; rw [if_pos rfl, b1]
    have hs : rSign w (k + 1) [40] = true := by rw [rSign_at b3]; rfl
    have hend : rNext w (k + 2) 0 = none := by unfold rNext; rw [if_pos rfl]; exact List.getElem?_eq_none (by omega)
    have hte : rTerm w (k + 2) 0 = (Tm.zero, k + 2, 4) := by unfold rTerm; rw [hend]; rfl
    have hse : ∀ s, rSign w (k + 2) s = false := fun s => by unfold rSign; rw [List.getElem?_eq_none (by omega)]
    have har : rArgs w (w.length + 1) [] (k + 2) 0 = ([Tm.zero], k + 2, 4) := by
      simp only [rArgs, if_true, hte, hse, Bool.false_eq_true, if_false, List.nil_append]
      rw [if_neg (by simp)]
    have hat : rAtom w k 0 = (⟨1, [112], [Tm.zero]⟩, k + 2, 4) := by
      simp only [rAtom, hnx, if_true, hs, har]
      simp [rEat]
    simp only [rClause, hat]
    simp [rEat]
  have hrr : (rRules w (n'' + 1) ([] ++ List.replicate n aR) k 0).2.2 = 4 := by
    simp only [rRules]
    rw [if_pos ⟨trivial, by omega⟩]
    have hz : ¬ ((rClause w k 0).2.2 = 0 ∧ ([] ++ List.replicate n aR).length = 30) := by rw [hcl]; omega
    simp only [if_neg hz]
    rw [rRules_err (by rw [hcl]; omega)]
    exact hcl
  unfold rProg
  rw [g1]
  simp only [hrr]
  simp [rBad]
end Delphi
set_option linter.unusedVariables false
set_option maxRecDepth 10000
set_option linter.unusedSimpArgs false
namespace Go.Proofs.YtpbdojjfokelaaaDoor
open Go.AE Delphi Val
variable {tab : Tab}
theorem addS (a b : List Nat) (h : a.length + b.length ≤ 1000000) : ∃ c, c = a ++ b ∧ strS BinOp.add a b = some (.str c) := by
  refine ⟨_, rfl, ?_⟩
  simp only [strS]; rw [if_pos (by omega)]
end Go.Proofs.YtpbdojjfokelaaaDoor
set_option linter.unusedVariables false
set_option maxRecDepth 10000
set_option linter.unusedSimpArgs false
namespace Go.Proofs.YtpbdojjfokelaaaDoor
open Go.AE Delphi Val
variable {tab : Tab}
theorem aT_bytes : ∀ n, ∀ x ∈ aT n, x < 256
  | 0 => by simp [aT]
  | n + 1 => by
    intro x hx
    simp only [aT, List.mem_append] at hx
    rcases hx with hx | hx
    · exact aT_bytes n x hx
    · simp at hx; omega
theorem limT_bytes : ∀ x ∈ limT, x < 256 := by decide
theorem wrT_bytes : ∀ x ∈ wrT, x < 256 := by decide
theorem syntaxFirst_law (C : Codes tab) (F : Formats tab) (PI : Parses tab) (J : Joins tab) (E : ExtIdx tab) {n k : Int} {aw : AW} : WF tab n_law8_SyntaxFirst [.int .i64 n, .int .i64 k] aw (fun v aw' => v = .bool true ∧ Frm (fun _ => False) aw aw') := by
  refine WF_of C.c_law8_SyntaxFirst rfl ?_
  refine WS_run 1000 (by simp only [go_sem, eRun_exit, Nat.reduceAdd, Nat.reduceLT, Nat.reduceEqDiff, reduceIte, reduceCtorEq, Nat.reduceLeDiff, k_law8_SyntaxFirst]; rfl) ?_
  refine WS_call (by simp only [go_sem, eRun_exit, Nat.reduceAdd, Nat.reduceLT, Nat.reduceEqDiff, reduceIte, reduceCtorEq, Nat.reduceLeDiff]) (by simp only [go_sem, eRun_exit, Nat.reduceAdd, Nat.reduceLT, Nat.reduceEqDiff, reduceIte, reduceCtorEq, Nat.reduceLeDiff]; rfl) ?_
  refine begun8_ok C F PI J E fun w0 g0 => ?_
  by_cases h1 : n < 0
  · refine WS_run 1000 (by simp only [go_sem, eRun_exit, Nat.reduceAdd, Nat.reduceLT, Nat.reduceEqDiff, reduceIte, reduceCtorEq, Nat.reduceLeDiff, k_law8_SyntaxFirst_p11, k_law8_SyntaxFirst_p1, h1]; rfl) ?_
    refine WS_ret ⟨_, by simp only [go_sem, eRun_exit, Nat.reduceAdd, Nat.reduceLT, Nat.reduceEqDiff, reduceIte, reduceCtorEq, Nat.reduceLeDiff, k_law8_SyntaxFirst]; rfl, ?_⟩
    exact ⟨rfl, g0⟩
  by_cases h2 : n > 29
  · refine WS_run 1000 (by simp only [go_sem, eRun_exit, Nat.reduceAdd, Nat.reduceLT, Nat.reduceEqDiff, reduceIte, reduceCtorEq, Nat.reduceLeDiff, k_law8_SyntaxFirst_p11, k_law8_SyntaxFirst_p1, h1, h2]; rfl) ?_
    refine WS_ret ⟨_, by simp only [go_sem, eRun_exit, Nat.reduceAdd, Nat.reduceLT, Nat.reduceEqDiff, reduceIte, reduceCtorEq, Nat.reduceLeDiff, k_law8_SyntaxFirst]; rfl, ?_⟩
    exact ⟨rfl, g0⟩
  refine WS_run 1000 (by simp only [go_sem, eRun_exit, Nat.reduceAdd, Nat.reduceLT, Nat.reduceEqDiff, reduceIte, reduceCtorEq, Nat.reduceLeDiff, k_law8_SyntaxFirst_p11, k_law8_SyntaxFirst_p10, h1, h2]; rfl) ?_
  obtain ⟨n, rfl⟩ := Int.eq_ofNat_of_zero_le (show 0 ≤ n by omega)
  have hn : n ≤ 29 := by omega
  refine WS_loopJ (fun q f' w' => ∃ j u, u = aT j ∧ f'.get 0 = some (.int .i64 (Int.ofNat n)) ∧ f'.get 6 = some (.str u) ∧ f'.get 7 = some (.int .i64 (Int.ofNat j)) ∧ w' = w0 ∧ j ≤ n ∧ q = n - j) (fun f' w' => f'.get 0 = some (.int .i64 (Int.ofNat n)) ∧ f'.get 6 = some (.str (aT n)) ∧ w' = w0) ?_ ?_ n
    ⟨0, [], rfl, (by simp only [go_sem, eRun_exit, Nat.reduceAdd, Nat.reduceLT, Nat.reduceEqDiff, reduceIte, reduceCtorEq, Nat.reduceLeDiff] <;> rfl), (by simp only [go_sem, eRun_exit, Nat.reduceAdd, Nat.reduceLT, Nat.reduceEqDiff, reduceIte, reduceCtorEq, Nat.reduceLeDiff] <;> rfl), (by simp only [go_sem, eRun_exit, Nat.reduceAdd, Nat.reduceLT, Nat.reduceEqDiff, reduceIte, reduceCtorEq, Nat.reduceLeDiff] <;> rfl), rfl, Nat.zero_le _, rfl⟩
  · rintro q f w' ⟨j, u, hu, f0, f6, f7, rfl, hj, rfl⟩ ih out
    by_cases hlt : j < n
    case neg =>
      obtain rfl : j = n := by omega
      refine WS_runB 1000 (by simp only [go_sem, Nat.reduceAdd, Nat.reduceLT, Nat.reduceEqDiff, reduceIte, reduceCtorEq, Nat.reduceLeDiff, k_law8_SyntaxFirst_p3, f0, f7, hlt]; rfl) ?_
      exact out _ _ _ ⟨(by simp only [go_sem, eRun_exit, Nat.reduceAdd, Nat.reduceLT, Nat.reduceEqDiff, reduceIte, reduceCtorEq, Nat.reduceLeDiff, f0] <;> rfl), by rw [← hu]; exact (by simp only [go_sem, eRun_exit, Nat.reduceAdd, Nat.reduceLT, Nat.reduceEqDiff, reduceIte, reduceCtorEq, Nat.reduceLeDiff, f6] <;> rfl), rfl⟩ rfl
    have hul : u.length ≤ 180 := by rw [hu, aT_len]; omega
    obtain ⟨c1, hc1, e1⟩ := addS u [112, 40, 97, 41, 46, 32] (by simp; omega)
    have hwr : IntKind.wrap .i64 (Int.ofNat j + 1) = Int.ofNat (j + 1) := wrap_succ (by omega)
    refine WS_run 1000 (by simp only [go_sem, eRun_exit, Nat.reduceAdd, Nat.reduceLT, Nat.reduceEqDiff, reduceIte, reduceCtorEq, Nat.reduceLeDiff, k_law8_SyntaxFirst_p3, k_law8_SyntaxFirst_p2, f0, f6, f7, hlt, e1, hwr]; rfl) ?_
    exact ih _ _ _ (by omega) ⟨j + 1, c1, by rw [hc1, hu]; rfl, (by simp only [go_sem, eRun_exit, Nat.reduceAdd, Nat.reduceLT, Nat.reduceEqDiff, reduceIte, reduceCtorEq, Nat.reduceLeDiff, f0] <;> rfl), (by simp only [go_sem, eRun_exit, Nat.reduceAdd, Nat.reduceLT, Nat.reduceEqDiff, reduceIte, reduceCtorEq, Nat.reduceLeDiff] <;> rfl), (by simp only [go_sem, eRun_exit, Nat.reduceAdd, Nat.reduceLT, Nat.reduceEqDiff, reduceIte, reduceCtorEq, Nat.reduceLeDiff] <;> rfl), rfl, by omega, rfl⟩
  rintro f w' ⟨f0, f6, rfl⟩
  have hal := aT_len n
  obtain ⟨c1, hc1, e1⟩ := addS (aT n) limT (by simp [limT]; omega)
  obtain ⟨c2, hc2, e2⟩ := addS c1 wrT (by rw [hc1, List.length_append]; simp [limT, wrT]; omega)
  obtain ⟨d1, hd1, e3⟩ := addS (aT n) wrT (by simp [wrT]; omega)
  obtain ⟨d2, hd2, e4⟩ := addS d1 limT (by rw [hd1, List.length_append]; simp [limT, wrT]; omega)
  have hc2b : ∀ x ∈ c2, x < 256 := by
    intro x hx
    rw [hc2, hc1] at hx
    simp only [List.mem_append] at hx
    rcases hx with (hx | hx) | hx
    · exact aT_bytes n x hx
    · exact limT_bytes x hx
    · exact wrT_bytes x hx
  have hd2b : ∀ x ∈ d2, x < 256 := by
    intro x hx
    rw [hd2, hd1] at hx
    simp only [List.mem_append] at hx
    rcases hx with (hx | hx) | hx
    · exact aT_bytes n x hx
    · exact wrT_bytes x hx
    · exact limT_bytes x hx
  have hc2l : c2.length ≤ 1000 := by rw [hc2, hc1, List.length_append, List.length_append, hal]; simp [limT, wrT]; omega
  have hd2l : d2.length ≤ 1000 := by rw [hd2, hd1, List.length_append, List.length_append, hal]; simp [limT, wrT]; omega
  have r1 := first_limit hn
  have r2 := first_wrong hn
  rw [← hc1, ← hc2] at r1
  rw [← hd1, ← hd2] at r2
  have e1 : strS BinOp.add (aT n) [112, 32, 58, 45, 32, 113, 40, 97, 44, 98, 44, 99, 44, 100, 44, 101, 41, 46, 32] = some (.str c1) := e1
  have e2 : strS BinOp.add c1 [112, 40, 63, 32] = some (.str c2) := e2
  have e3 : strS BinOp.add (aT n) [112, 40, 63, 32] = some (.str d1) := e3
  have e4 : strS BinOp.add d1 [112, 32, 58, 45, 32, 113, 40, 97, 44, 98, 44, 99, 44, 100, 44, 101, 41, 46, 32] = some (.str d2) := e4
  clear hc1 hc2 hd1 hd2
  refine WS_run 1000 (by simp only [go_sem, eRun_exit, Nat.reduceAdd, Nat.reduceLT, Nat.reduceEqDiff, reduceIte, reduceCtorEq, Nat.reduceLeDiff, f0, f6, k_law8_SyntaxFirst_p9, e1, e2]; rfl) ?_
  refine WS_call (by simp only [go_sem, eRun_exit, Nat.reduceAdd, Nat.reduceLT, Nat.reduceEqDiff, reduceIte, reduceCtorEq, Nat.reduceLeDiff]) (by simp only [go_sem, eRun_exit, Nat.reduceAdd, Nat.reduceLT, Nat.reduceEqDiff, reduceIte, reduceCtorEq, Nat.reduceLeDiff]; rfl) ?_
  refine sprogram_ok C PI E (by omega) hc2b fun w1 v1 T1 q1 q2 q3 => ?_
  rw [r1]
  refine WS_run 1000 (by simp only [go_sem, eRun_exit, Nat.reduceAdd, Nat.reduceLT, Nat.reduceEqDiff, reduceIte, reduceCtorEq, Nat.reduceLeDiff, f0, f6, k_law8_SyntaxFirst_p8, e3, e4]; rfl) ?_
  refine WS_call (by simp only [go_sem, eRun_exit, Nat.reduceAdd, Nat.reduceLT, Nat.reduceEqDiff, reduceIte, reduceCtorEq, Nat.reduceLeDiff]) (by simp only [go_sem, eRun_exit, Nat.reduceAdd, Nat.reduceLT, Nat.reduceEqDiff, reduceIte, reduceCtorEq, Nat.reduceLeDiff]; rfl) ?_
  refine sprogram_ok C PI E (by omega) hd2b fun w2 v2 T2 q4 q5 q6 => ?_
  rw [r2]
  refine WS_run 1000 (by simp only [go_sem, eRun_exit, Nat.reduceAdd, Nat.reduceLT, Nat.reduceEqDiff, reduceIte, reduceCtorEq, Nat.reduceLeDiff, f0, f6]; rfl) ?_
  refine WS_loopJ (fun q f' w' => ∃ j u, u = aT j ∧ f'.get 6 = some (.str u) ∧ f'.get 9 = some (.str [112, 40, 63, 32]) ∧ f'.get 11 = some (.int .i64 8) ∧ f'.get 13 = some (.int .i64 4) ∧ f'.get 14 = some (.int .i64 (Int.ofNat j)) ∧ w' = w2 ∧ j ≤ 31 ∧ q = 31 - j) (fun f' w' => f'.get 6 = some (.str (aT 31)) ∧ f'.get 9 = some (.str [112, 40, 63, 32]) ∧ f'.get 11 = some (.int .i64 8) ∧ f'.get 13 = some (.int .i64 4) ∧ w' = w2) ?_ ?_ (31 - n)
    ⟨n, aT n, rfl, (by simp only [go_sem, eRun_exit, Nat.reduceAdd, Nat.reduceLT, Nat.reduceEqDiff, reduceIte, reduceCtorEq, Nat.reduceLeDiff, f6] <;> rfl), (by simp only [go_sem, eRun_exit, Nat.reduceAdd, Nat.reduceLT, Nat.reduceEqDiff, reduceIte, reduceCtorEq, Nat.reduceLeDiff] <;> rfl), (by simp only [go_sem, eRun_exit, Nat.reduceAdd, Nat.reduceLT, Nat.reduceEqDiff, reduceIte, reduceCtorEq, Nat.reduceLeDiff] <;> rfl), (by simp only [go_sem, eRun_exit, Nat.reduceAdd, Nat.reduceLT, Nat.reduceEqDiff, reduceIte, reduceCtorEq, Nat.reduceLeDiff] <;> rfl), (by simp only [go_sem, eRun_exit, Nat.reduceAdd, Nat.reduceLT, Nat.reduceEqDiff, reduceIte, reduceCtorEq, Nat.reduceLeDiff] <;> rfl), rfl, by omega, rfl⟩
  · rintro q f w' ⟨j, u, hu, f6, f9, f11, f13, f14, rfl, hj, rfl⟩ ih out
    by_cases hlt : j < 31
    case neg =>
      obtain rfl : j = 31 := by omega
      refine WS_runB 1000 (by simp only [go_sem, Nat.reduceAdd, Nat.reduceLT, Nat.reduceEqDiff, reduceIte, reduceCtorEq, Nat.reduceLeDiff, k_law8_SyntaxFirst_p5, f14, hlt]; rfl) ?_
      exact out _ _ _ ⟨by rw [← hu]; exact (by simp only [go_sem, eRun_exit, Nat.reduceAdd, Nat.reduceLT, Nat.reduceEqDiff, reduceIte, reduceCtorEq, Nat.reduceLeDiff, f6] <;> rfl), (by simp only [go_sem, eRun_exit, Nat.reduceAdd, Nat.reduceLT, Nat.reduceEqDiff, reduceIte, reduceCtorEq, Nat.reduceLeDiff, f9] <;> rfl), (by simp only [go_sem, eRun_exit, Nat.reduceAdd, Nat.reduceLT, Nat.reduceEqDiff, reduceIte, reduceCtorEq, Nat.reduceLeDiff, f11] <;> rfl), (by simp only [go_sem, eRun_exit, Nat.reduceAdd, Nat.reduceLT, Nat.reduceEqDiff, reduceIte, reduceCtorEq, Nat.reduceLeDiff, f13] <;> rfl), rfl⟩ rfl
    have hul : u.length ≤ 186 := by rw [hu, aT_len]; omega
    obtain ⟨c1, hc1, e1⟩ := addS u [112, 40, 97, 41, 46, 32] (by simp; omega)
    have hwr : IntKind.wrap .i64 (Int.ofNat j + 1) = Int.ofNat (j + 1) := wrap_succ (by omega)
    refine WS_run 1000 (by simp only [go_sem, eRun_exit, Nat.reduceAdd, Nat.reduceLT, Nat.reduceEqDiff, reduceIte, reduceCtorEq, Nat.reduceLeDiff, k_law8_SyntaxFirst_p5, k_law8_SyntaxFirst_p4, f6, f14, hlt, e1, hwr]; rfl) ?_
    exact ih _ _ _ (by omega) ⟨j + 1, c1, by rw [hc1, hu]; rfl, (by simp only [go_sem, eRun_exit, Nat.reduceAdd, Nat.reduceLT, Nat.reduceEqDiff, reduceIte, reduceCtorEq, Nat.reduceLeDiff] <;> rfl), (by simp only [go_sem, eRun_exit, Nat.reduceAdd, Nat.reduceLT, Nat.reduceEqDiff, reduceIte, reduceCtorEq, Nat.reduceLeDiff, f9] <;> rfl), (by simp only [go_sem, eRun_exit, Nat.reduceAdd, Nat.reduceLT, Nat.reduceEqDiff, reduceIte, reduceCtorEq, Nat.reduceLeDiff, f11] <;> rfl), (by simp only [go_sem, eRun_exit, Nat.reduceAdd, Nat.reduceLT, Nat.reduceEqDiff, reduceIte, reduceCtorEq, Nat.reduceLeDiff, f13] <;> rfl), (by simp only [go_sem, eRun_exit, Nat.reduceAdd, Nat.reduceLT, Nat.reduceEqDiff, reduceIte, reduceCtorEq, Nat.reduceLeDiff] <;> rfl), rfl, by omega, rfl⟩
  rintro f w' ⟨f6, f9, f11, f13, rfl⟩
  obtain ⟨c3, hc3, e5⟩ := addS (aT 31) wrT (by rw [aT_len]; simp [wrT])
  have r3 := first_thirty (n := 31) rfl
  rw [← hc3] at r3
  have hc3b : ∀ x ∈ c3, x < 256 := by
    intro x hx
    rw [hc3] at hx
    rcases List.mem_append.1 hx with hx | hx
    · exact aT_bytes 31 x hx
    · exact wrT_bytes x hx
  have hc3l : c3.length ≤ 1000 := by rw [hc3, List.length_append, aT_len]; simp [wrT]
  have e5 : strS BinOp.add (aT 31) [112, 40, 63, 32] = some (.str c3) := e5
  clear hc3
  refine WS_run 1000 (by simp only [go_sem, eRun_exit, Nat.reduceAdd, Nat.reduceLT, Nat.reduceEqDiff, reduceIte, reduceCtorEq, Nat.reduceLeDiff, f6, f9, k_law8_SyntaxFirst_p7, e5]; rfl) ?_
  refine WS_call (by simp only [go_sem, eRun_exit, Nat.reduceAdd, Nat.reduceLT, Nat.reduceEqDiff, reduceIte, reduceCtorEq, Nat.reduceLeDiff]) (by simp only [go_sem, eRun_exit, Nat.reduceAdd, Nat.reduceLT, Nat.reduceEqDiff, reduceIte, reduceCtorEq, Nat.reduceLeDiff]; rfl) ?_
  refine sprogram_ok C PI E (by omega) hc3b fun w3 v3 T3 q7 q8 q9 => ?_
  rw [r3]
  refine WS_run 1000 (by simp only [go_sem, eRun_exit, Nat.reduceAdd, Nat.reduceLT, Nat.reduceEqDiff, reduceIte, reduceCtorEq, Nat.reduceLeDiff, f11, f13, k_law8_SyntaxFirst_p6]; rfl) ?_
  refine WS_ret ⟨_, by simp only [go_sem, eRun_exit, Nat.reduceAdd, Nat.reduceLT, Nat.reduceEqDiff, reduceIte, reduceCtorEq, Nat.reduceLeDiff, k_law8_SyntaxFirst]; rfl, ?_⟩
  exact ⟨rfl, ((g0.tr q2).tr q5).tr q8⟩
end Go.Proofs.YtpbdojjfokelaaaDoor
