/- A part of the proof: XMany, PPar15. -/
import Derived.Test.YtpbdojjfokelaaaDoorScK
set_option linter.unusedVariables false
set_option linter.unusedSimpArgs false
set_option linter.unusedSectionVars false
namespace Delphi
open Go.AE
variable [Globs]
def tA : Tm := ⟨2, [97], 0⟩
theorem tA_w : TmW tA := .inr (.inl ⟨rfl, rfl⟩)
def mR (body terms : Nat) : Rl := ⟨⟨1, [112], []⟩, List.replicate body ⟨1, [113], List.replicate terms tA⟩⟩
def mArgT : Nat → List Nat
  | 0 => []
  | n + 1 => mArgT n ++ (if 0 < n then [44] else []) ++ [97]
def mLitT (terms : Nat) : Nat → List Nat
  | 0 => []
  | n + 1 => mLitT terms n ++ (if n = 0 then [32, 58, 45, 32] else [44, 32]) ++ [113, 40] ++ mArgT terms ++ [41]
def mT (body terms : Nat) : Nat → List Nat
  | 0 => []
  | n + 1 => mT body terms n ++ [112] ++ mLitT terms body ++ [46, 10]
def kA (g : List Nat) : Tok := ⟨g, 1, [97]⟩
def mArgK : Nat → List Tok
  | 0 => []
  | n + 1 => mArgK n ++ ((if 0 < n then [sgK [] [44]] else []) ++ [kA []])
def mLitK (terms : Nat) : Nat → List Tok
  | 0 => []
  | n + 1 => mLitK terms n ++ ((if n = 0 then [sgK [32] [58, 45]] else [sgK [] [44]]) ++ (⟨[32], 1, [113]⟩ :: sgK [] [40] :: (mArgK terms ++ [sgK [] [41]])))
def mK (body terms : Nat) : List Tok := ⟨[], 1, [112]⟩ :: (mLitK terms body ++ [sgK [] [46]])
theorem mArgK_laid : ∀ n, laidT (mArgK n) = mArgT n
  | 0 => rfl
  | n + 1 => by
    simp only [mArgK, mArgT, laidT_app, mArgK_laid n]
    by_cases h : 0 < n
    · simp only [if_pos h, laidT, sgK, kA]; simp
    · simp only [if_neg h, laidT, sgK, kA]; simp
theorem mLitK_laid (terms : Nat) : ∀ n, laidT (mLitK terms n) = mLitT terms n
  | 0 => rfl
  | n + 1 => by
    simp only [mLitK, mLitT, laidT_app, mLitK_laid terms n]
    by_cases h : n = 0
    · simp only [if_pos h, laidT, laidT_app, sgK, mArgK_laid]; simp
    · simp only [if_neg h, laidT, laidT_app, sgK, mArgK_laid]; simp
theorem argsW_snoc {l : List Tm} {t : Tm} (h : l ≠ []) : argsW fmtI (l ++ [t]) = argsW fmtI l ++ [sgn [44], tokT fmtI t] := by
  cases l with
  | nil => exact absurd rfl h
  | cons x l => simp [argsW]
theorem litsW_snoc {l : List Lt} {t : Lt} (h : l ≠ []) : litsW fmtI (l ++ [t]) = litsW fmtI l ++ (sgn [44] :: litW fmtI t) := by
  cases l with
  | nil => exact absurd rfl h
  | cons x l => simp [litsW]
theorem rep_snoc {α : Type} (n : Nat) (a : α) : List.replicate (n + 1) a = List.replicate n a ++ [a] := by rw [List.replicate_succ']
theorem mArgK_wd : ∀ n, (mArgK n).map Tok.wd = argsW fmtI (List.replicate n tA)
  | 0 => rfl
  | n + 1 => by
    rw [rep_snoc]
    simp only [mArgK, List.map_append, mArgK_wd n]
    by_cases h : 0 < n
    · rw [if_pos h, argsW_snoc (by intro he; have := congrArg List.length he; simp at this; omega)]
      rfl
    · have h0 : n = 0 := by omega
      subst h0; rfl
theorem atomW_rep (n : Nat) (h : 0 < n) : atomW fmtI [113] (List.replicate n tA) = ⟨1, [113], 0⟩ :: sgn [40] :: (argsW fmtI (List.replicate n tA) ++ [sgn [41]]) := by
  cases n with
  | zero => omega
  | succ n => rfl
theorem mLitK_wd {terms : Nat} (ht : 0 < terms) : ∀ n, (mLitK terms n).map Tok.wd = bodyW fmtI (List.replicate n ⟨1, [113], List.replicate terms tA⟩)
  | 0 => rfl
  | n + 1 => by
    rw [rep_snoc]
    have hl : litW fmtI ⟨1, [113], List.replicate terms tA⟩ = ⟨1, [113], 0⟩ :: sgn [40] :: (argsW fmtI (List.replicate terms tA) ++ [sgn [41]]) := by
      rw [← atomW_rep terms ht]; exact if_pos rfl
    simp only [mLitK, List.map_append, mLitK_wd ht n, List.map_cons, mArgK_wd, List.map_nil]
    by_cases h : n = 0
    · subst h
      simp only [if_true, List.replicate_zero, List.nil_append]
      show [] ++ (sgn [58, 45] :: (⟨1, [113], 0⟩ :: sgn [40] :: (argsW fmtI (List.replicate terms tA) ++ [sgn [41]]))) = sgn [58, 45] :: litsW fmtI [⟨1, [113], List.replicate terms tA⟩]
      rw [← hl]; simp [litsW]
    · rw [if_neg h]
      obtain ⟨m, rfl⟩ : ∃ m, n = m + 1 := ⟨n - 1, by omega⟩
      have hb : ∀ l : List Lt, l ≠ [] → bodyW fmtI l = sgn [58, 45] :: litsW fmtI l := by
        intro l hl; cases l with
        | nil => exact absurd rfl hl
        | cons x l => rfl
      rw [hb _ (by simp [List.replicate_succ]), hb _ (by simp), litsW_snoc (by simp [List.replicate_succ]), hl]
      rfl
theorem mK_wd {body terms : Nat} (ht : body = 0 ∨ 0 < terms) : (mK body terms).map Tok.wd = ruleW fmtI (mR body terms) := by
  unfold mK ruleW
  rw [List.map_cons, List.map_append]
  rcases ht with rfl | ht
  · rfl
  · rw [mLitK_wd ht]; rfl
theorem nmA {c : Nat} (h : isSmall c = true) : nameT [c] := ⟨c, [], rfl, h, fun x hx => by
  simp only [List.mem_cons, List.not_mem_nil, or_false] at hx; subst hx; simp [isNamed, h], by simp⟩
theorem k1_lx {g : List Nat} {c : Nat} {l : List Tok} {r : List Nat} (hg : Gap g) (hc : isSmall c = true) (hr : Ends isVarC (laidT l ++ r)) (h : LxAll l r) : LxAll (⟨g, 1, [c]⟩ :: l) r :=
  ⟨hg, by show [c] ≠ []; simp, (fun _ => by show [c].length ≤ 16; simp), lx_name (nmA hc) (ends_n hr).1, h⟩
theorem mArgK_lx : ∀ (n : Nat) (r : List Nat), Ends isVarC r → LxAll (mArgK n) r
  | 0, r, _ => trivial
  | n + 1, r, hr => by
    by_cases h : 0 < n
    · simp only [mArgK, if_pos h]
      exact LxAll.app (mArgK_lx n _ (ends_c (c := 44) (by decide))) (sgK_lx gap_nil (by decide) (k1_lx gap_nil (by decide) hr trivial))
    · have h0 : n = 0 := by omega
      subst h0
      exact k1_lx gap_nil (by decide) hr trivial
theorem mLitK_lx (terms : Nat) (ht : 0 < terms) : ∀ (n : Nat) (r : List Nat), Ends isVarC r → LxAll (mLitK terms n) r
  | 0, r, _ => trivial
  | n + 1, r, hr => by
    have hq : LxAll (⟨[32], 1, [113]⟩ :: sgK [] [40] :: (mArgK terms ++ [sgK [] [41]])) r :=
      k1_lx gap32 (by decide) (ends_c (c := 40) (by decide)) (sgK_lx gap_nil (by decide) (LxAll.app (mArgK_lx terms _ (ends_c (c := 41) (by decide))) (sgK_lx gap_nil (by decide) trivial)))
    simp only [mLitK]
    by_cases h : n = 0
    · subst h
      exact sgK_lx gap32 (by decide) hq
    · rw [if_neg h]
      exact LxAll.app (mLitK_lx terms ht n _ (ends_c (c := 44) (by decide))) (sgK_lx gap_nil (by decide) hq)
theorem mK_lx {body terms : Nat} (ht : body = 0 ∨ 0 < terms) (r : List Nat) : LxAll (mK body terms) r := by
  unfold mK
  have hd : LxAll [sgK [] [46]] r := sgK_lx gap_nil (by decide) trivial
  rcases ht with rfl | ht
  · exact k1_lx gap_nil (by decide) (ends_c (c := 46) (by decide)) hd
  · refine k1_lx gap_nil (by decide) ?_ (LxAll.app (mLitK_lx terms ht body _ (ends_c (c := 46) (by decide))) hd)
    rw [laidT_app, mLitK_laid]
    cases body with
    | zero => exact ends_c (c := 46) (by decide)
    | succ b =>
      have : ∀ n, ∃ l, mLitT terms (n + 1) = 32 :: l := by
        intro n
        induction n with
        | zero => exact ⟨_, rfl⟩
        | succ n ih =>
          obtain ⟨l, hl⟩ := ih
          rw [mLitT, hl]
          exact ⟨_, rfl⟩
      obtain ⟨l, hl⟩ := this b
      rw [hl]; exact ends_c (c := 32) (by decide)
theorem mT_cons (body terms : Nat) : ∀ n, mT body terms (n + 1) = ([112] ++ mLitT terms body ++ [46]) ++ 10 :: mT body terms n
  | 0 => by simp [mT]
  | n + 1 => by
    have e : mT body terms (n + 2) = mT body terms (n + 1) ++ [112] ++ mLitT terms body ++ [46, 10] := rfl
    rw [e]
    conv => lhs; rw [mT_cons body terms n]
    simp only [mT, List.append_assoc, List.cons_append, List.nil_append]
theorem scan_mT {body terms : Nat} (ht : body = 0 ∨ 0 < terms) : ∀ (n at' : Nat), ∃ ws, ws.map sW = (List.replicate n (mR body terms)).flatMap (ruleW fmtI) ∧ scan at' (mT body terms n) = (ws, true)
  | 0, at' => ⟨[], rfl, by rw [mT, scan_eq]; rfl⟩
  | n + 1, at' => by
    obtain ⟨ws, m, h1, h2⟩ := scan_laid (mK body terms) at' (10 :: mT body terms n) (mK_lx ht _)
    have h10 : scan m (10 :: mT body terms n) = scan (m + 1) (mT body terms n) := (gap_one (c := 10) rfl).scan m _
    obtain ⟨ws', h3, h4⟩ := scan_mT ht n (m + 1)
    refine ⟨ws ++ ws', ?_, ?_⟩
    · rw [List.map_append, h1, h3, mK_wd ht, List.replicate_succ, List.flatMap_cons]
    · have e : mT body terms (n + 1) = laidT (mK body terms) ++ 10 :: mT body terms n := by
        rw [mT_cons]
        congr 1
        simp only [mK, laidT, laidT_app, mLitK_laid, sgK, List.nil_append, List.append_nil, List.append_assoc]
      rw [e, h2, h10, h4]
theorem mR_w (body terms : Nat) : RlW (mR body terms) := by
  refine ⟨rfl, by simp [mR], fun l hl => ?_⟩
  obtain rfl := (List.mem_replicate.1 hl).2
  exact ⟨.inl (.inl rfl), fun t ht => by rw [(List.mem_replicate.1 ht).2]; exact tA_w⟩
theorem mR_l {body terms : Nat} : RlL (mR body terms) ↔ body ≤ 6 ∧ (body = 0 ∨ terms ≤ 4) := by
  constructor
  · rintro ⟨_, h2, h3⟩
    simp only [mR, List.length_replicate] at h2
    refine ⟨h2, ?_⟩
    by_cases h0 : body = 0
    · exact .inl h0
    · right
      have := h3 ⟨1, [113], List.replicate terms tA⟩ (List.mem_replicate.2 ⟨h0, rfl⟩)
      simpa [Four] using this
  · rintro ⟨h1, h2⟩
    refine ⟨by simp [mR], by simpa [mR] using h1, fun l hl => ?_⟩
    obtain ⟨h3, rfl⟩ := List.mem_replicate.1 hl
    have := h2.resolve_left h3
    simpa [Four] using this
theorem mArgT_len : ∀ n, (mArgT n).length ≤ 2 * n
  | 0 => by simp [mArgT]
  | n + 1 => by
    have := mArgT_len n
    simp only [mArgT, List.length_append, List.length_cons, List.length_nil]
    split <;> simp <;> omega
theorem mLitT_len (terms : Nat) : ∀ n, (mLitT terms n).length ≤ (7 + 2 * terms) * n
  | 0 => by simp [mLitT]
  | n + 1 => by
    have h1 := mLitT_len terms n
    have h2 := mArgT_len terms
    have e : (7 + 2 * terms) * (n + 1) = (7 + 2 * terms) * n + (7 + 2 * terms) := Nat.mul_succ ..
    simp only [mLitT, List.length_append, List.length_cons, List.length_nil]
    split <;> simp only [List.length_cons, List.length_nil] <;> omega
theorem mT_len (body terms : Nat) : ∀ n, (mT body terms n).length ≤ (3 + (7 + 2 * terms) * body) * n
  | 0 => by simp [mT]
  | n + 1 => by
    have h1 := mT_len body terms n
    have h2 := mLitT_len terms body
    have e : (3 + (7 + 2 * terms) * body) * (n + 1) = (3 + (7 + 2 * terms) * body) * n + (3 + (7 + 2 * terms) * body) := Nat.mul_succ ..
    simp only [mT, List.length_append, List.length_cons, List.length_nil]; omega
theorem rProgram_many {rules body terms : Nat} (h1 : 1 ≤ rules) (h2 : rules ≤ 40) (h3 : body ≤ 9) (h4 : 1 ≤ terms) (h5 : terms ≤ 7) :
    ((30 < rules ∨ 6 < body ∨ (0 < body ∧ 4 < terms)) → rProgram (mT body terms rules) = ([], 8)) ∧ (¬ (30 < rules ∨ 6 < body ∨ (0 < body ∧ 4 < terms)) → rProgram (mT body terms rules) = (List.replicate rules (mR body terms), 0)) := by
  obtain ⟨ws, g1, g2⟩ := scan_mT (body := body) (terms := terms) (.inr (by omega)) rules 0
  constructor
  · intro hbad
    by_cases hl : (mT body terms rules).length ≤ 4000
    · rw [rProgram_ws hl, g2, ← rProg_sW]
      simp only
      by_cases hL : RlL (mR body terms)
      · have hr : 30 < rules := by
          rcases hbad with h | h | h
          · exact h
          · have := (mR_l.1 hL).1; omega
          · have := (mR_l.1 hL).2; omega
        refine rProg_bad fmt_ok (rs := List.replicate 30 (mR body terms)) (r := mR body terms) (fun r hr => by rw [(List.mem_replicate.1 hr).2]; exact ⟨mR_w _ _, hL⟩) (by simp) (mR_w _ _) (.inr (by simp)) ?_
        rw [g1, ← rep_snoc]
        refine ⟨(List.replicate (rules - 31) (mR body terms)).flatMap (ruleW fmtI), ?_⟩
        rw [List.drop_zero, ← List.flatMap_append, List.replicate_append_replicate, show 30 + 1 + (rules - 31) = rules by omega]
      · refine rProg_bad fmt_ok (rs := []) (r := mR body terms) (by simp) (by simp) (mR_w _ _) (.inl hL) ?_
        rw [g1]
        refine ⟨(List.replicate (rules - 1) (mR body terms)).flatMap (ruleW fmtI), ?_⟩
        rw [List.drop_zero, List.nil_append, List.flatMap_singleton, show rules = (rules - 1) + 1 by omega, List.replicate_succ, List.flatMap_cons]
        simp
    · unfold rProgram; rw [if_pos (by omega)]
  · intro hgood
    have hL : RlL (mR body terms) := mR_l.2 ⟨by omega, by omega⟩
    have hlen := mT_len body terms rules
    have hl : (mT body terms rules).length ≤ 4000 := by
      have e1 : (7 + 2 * terms) * body ≤ 90 := by
        by_cases h0 : body = 0
        · subst h0; simp
        · have : (7 + 2 * terms) * body ≤ 15 * 6 := Nat.mul_le_mul (by omega) (by omega)
          omega
      have e2 : (3 + (7 + 2 * terms) * body) * rules ≤ 93 * 30 := Nat.mul_le_mul (by omega) (by omega)
      omega
    rw [rProgram_ws hl, g2, ← rProg_sW]
    simp only
    rw [g1]
    exact rProg_at fmt_ok (fun r hr => by rw [(List.mem_replicate.1 hr).2]; exact ⟨mR_w _ _, hL⟩) (by simp; omega)
end Delphi
set_option linter.unusedVariables false
set_option maxRecDepth 10000
set_option linter.unusedSimpArgs false
namespace Go.Proofs.YtpbdojjfokelaaaDoor
open Go.AE Delphi Val
variable {tab : Tab}
theorem addS (a b : List Nat) (h : a.length + b.length ≤ 1000000) : ∃ c, c = a ++ b ∧ strS BinOp.add a b = some (.str c) := by
  refine ⟨_, rfl, ?_⟩
  simp only [strS]; rw [if_pos (by omega)]
structure MnF (f : Fr) (r b t : Nat) : Prop where
  f0 : f.get 0 = some (.int .i64 (Int.ofNat r))
  f1 : f.get 1 = some (.int .i64 (Int.ofNat b))
  f2 : f.get 2 = some (.int .i64 (Int.ofNat t))
theorem mn_terms (C : Codes tab) {r b t i k : Nat} {p : List Nat} {f : Fr} {w : AW} {s : List SI} {Q : Fr → AW → Prop} (ht : t ≤ 7) (hp : p.length ≤ 900000)
    (hF : MnF f r b t) (f8 : f.get 8 = some (.str p)) (f9 : f.get 9 = some (.int .i64 (Int.ofNat i))) (f10 : f.get 10 = some (.int .i64 (Int.ofNat k))) (f11 : f.get 11 = some (.int .i64 (Int.ofNat 0)))
    (h : ∀ f', MnF f' r b t → f'.get 8 = some (.str (p ++ mArgT t)) → f'.get 9 = some (.int .i64 (Int.ofNat i)) → f'.get 10 = some (.int .i64 (Int.ofNat k)) → WS tab s f' w Q) : WS tab (.code (.loop k_law8_SyntaxMany_p6) :: .endB 4 :: s) f w Q := by
  refine WS_loopJ (fun n f' w' => ∃ j u, u = p ++ mArgT j ∧ MnF f' r b t ∧ f'.get 8 = some (.str u) ∧ f'.get 9 = some (.int .i64 (Int.ofNat i)) ∧ f'.get 10 = some (.int .i64 (Int.ofNat k)) ∧ f'.get 11 = some (.int .i64 (Int.ofNat j)) ∧ w' = w ∧ j ≤ t ∧ n = t - j) (fun f' w' => MnF f' r b t ∧ f'.get 8 = some (.str (p ++ mArgT t)) ∧ f'.get 9 = some (.int .i64 (Int.ofNat i)) ∧ f'.get 10 = some (.int .i64 (Int.ofNat k)) ∧ w' = w) ?_ ?_ t
    ⟨0, p, by simp [mArgT], hF, f8, f9, f10, f11, rfl, Nat.zero_le _, rfl⟩
  · rintro n f w' ⟨j, u, hu, ⟨f0, f1, f2⟩, f8, f9, f10, f11, rfl, hj, rfl⟩ ih out
    by_cases hlt : j < t
    case neg =>
      obtain rfl : j = t := by omega
      refine WS_runB 1000 (by simp only [go_sem, Nat.reduceAdd, Nat.reduceLT, Nat.reduceEqDiff, reduceIte, reduceCtorEq, Nat.reduceLeDiff, k_law8_SyntaxMany_p6, f2, f11, hlt]; rfl) ?_
      exact out _ _ _ ⟨⟨(by simp only [go_sem, eRun_exit, Nat.reduceAdd, Nat.reduceLT, Nat.reduceEqDiff, reduceIte, reduceCtorEq, Nat.reduceLeDiff, f0] <;> rfl), (by simp only [go_sem, eRun_exit, Nat.reduceAdd, Nat.reduceLT, Nat.reduceEqDiff, reduceIte, reduceCtorEq, Nat.reduceLeDiff, f1] <;> rfl), (by simp only [go_sem, eRun_exit, Nat.reduceAdd, Nat.reduceLT, Nat.reduceEqDiff, reduceIte, reduceCtorEq, Nat.reduceLeDiff, f2] <;> rfl)⟩, by rw [← hu]; exact (by simp only [go_sem, eRun_exit, Nat.reduceAdd, Nat.reduceLT, Nat.reduceEqDiff, reduceIte, reduceCtorEq, Nat.reduceLeDiff, f8] <;> rfl), (by simp only [go_sem, eRun_exit, Nat.reduceAdd, Nat.reduceLT, Nat.reduceEqDiff, reduceIte, reduceCtorEq, Nat.reduceLeDiff, f9] <;> rfl), (by simp only [go_sem, eRun_exit, Nat.reduceAdd, Nat.reduceLT, Nat.reduceEqDiff, reduceIte, reduceCtorEq, Nat.reduceLeDiff, f10] <;> rfl), rfl⟩ rfl
    have hal := mArgT_len j
    have hul : u.length ≤ 900014 := by rw [hu, List.length_append]; omega
    have hwr : IntKind.wrap .i64 (Int.ofNat j + 1) = Int.ofNat (j + 1) := wrap_succ (by omega)
    by_cases h0 : j = 0
    · subst h0
      obtain ⟨c1, hc1, e1⟩ := addS u [97] (by simp; omega)
      refine WS_run 1000 (by simp only [go_sem, eRun_exit, Nat.reduceAdd, Nat.reduceLT, Nat.reduceEqDiff, reduceIte, reduceCtorEq, Nat.reduceLeDiff, k_law8_SyntaxMany_p6, k_law8_SyntaxMany_p5, f2, f8, f11, hlt, e1, hwr]; rfl) ?_
      exact ih _ _ _ (by omega) ⟨1, c1, by rw [hc1, hu]; simp [mArgT], ⟨(by simp only [go_sem, eRun_exit, Nat.reduceAdd, Nat.reduceLT, Nat.reduceEqDiff, reduceIte, reduceCtorEq, Nat.reduceLeDiff, f0] <;> rfl), (by simp only [go_sem, eRun_exit, Nat.reduceAdd, Nat.reduceLT, Nat.reduceEqDiff, reduceIte, reduceCtorEq, Nat.reduceLeDiff, f1] <;> rfl), (by simp only [go_sem, eRun_exit, Nat.reduceAdd, Nat.reduceLT, Nat.reduceEqDiff, reduceIte, reduceCtorEq, Nat.reduceLeDiff, f2] <;> rfl)⟩, (by simp only [go_sem, eRun_exit, Nat.reduceAdd, Nat.reduceLT, Nat.reduceEqDiff, reduceIte, reduceCtorEq, Nat.reduceLeDiff] <;> rfl), (by simp only [go_sem, eRun_exit, Nat.reduceAdd, Nat.reduceLT, Nat.reduceEqDiff, reduceIte, reduceCtorEq, Nat.reduceLeDiff, f9] <;> rfl), (by simp only [go_sem, eRun_exit, Nat.reduceAdd, Nat.reduceLT, Nat.reduceEqDiff, reduceIte, reduceCtorEq, Nat.reduceLeDiff, f10] <;> rfl), (by simp only [go_sem, eRun_exit, Nat.reduceAdd, Nat.reduceLT, Nat.reduceEqDiff, reduceIte, reduceCtorEq, Nat.reduceLeDiff] <;> rfl), rfl, by omega, rfl⟩
    · obtain ⟨c1, hc1, e1⟩ := addS u [44] (by simp; omega)
      have hc1l : c1.length ≤ 900015 := by rw [hc1, List.length_append]; simp; omega
      obtain ⟨c2, hc2, e2⟩ := addS c1 [97] (by simp; omega)
      have hpos : 0 < j := by omega
      refine WS_run 1000 (by simp only [go_sem, eRun_exit, Nat.reduceAdd, Nat.reduceLT, Nat.reduceEqDiff, reduceIte, reduceCtorEq, Nat.reduceLeDiff, k_law8_SyntaxMany_p6, k_law8_SyntaxMany_p5, k_law8_SyntaxMany_p4, f2, f8, f11, hlt, hpos, e1, e2, hwr]; rfl) ?_
      exact ih _ _ _ (by omega) ⟨j + 1, c2, by rw [hc2, hc1, hu]; simp [mArgT, hpos], ⟨(by simp only [go_sem, eRun_exit, Nat.reduceAdd, Nat.reduceLT, Nat.reduceEqDiff, reduceIte, reduceCtorEq, Nat.reduceLeDiff, f0] <;> rfl), (by simp only [go_sem, eRun_exit, Nat.reduceAdd, Nat.reduceLT, Nat.reduceEqDiff, reduceIte, reduceCtorEq, Nat.reduceLeDiff, f1] <;> rfl), (by simp only [go_sem, eRun_exit, Nat.reduceAdd, Nat.reduceLT, Nat.reduceEqDiff, reduceIte, reduceCtorEq, Nat.reduceLeDiff, f2] <;> rfl)⟩, (by simp only [go_sem, eRun_exit, Nat.reduceAdd, Nat.reduceLT, Nat.reduceEqDiff, reduceIte, reduceCtorEq, Nat.reduceLeDiff] <;> rfl), (by simp only [go_sem, eRun_exit, Nat.reduceAdd, Nat.reduceLT, Nat.reduceEqDiff, reduceIte, reduceCtorEq, Nat.reduceLeDiff, f9] <;> rfl), (by simp only [go_sem, eRun_exit, Nat.reduceAdd, Nat.reduceLT, Nat.reduceEqDiff, reduceIte, reduceCtorEq, Nat.reduceLeDiff, f10] <;> rfl), (by simp only [go_sem, eRun_exit, Nat.reduceAdd, Nat.reduceLT, Nat.reduceEqDiff, reduceIte, reduceCtorEq, Nat.reduceLeDiff] <;> rfl), rfl, by omega, rfl⟩
  · rintro f w' ⟨h1, h2, h3, h4, rfl⟩
    exact h f h1 h2 h3 h4
theorem mn_lits (C : Codes tab) {r b t i : Nat} {p : List Nat} {f : Fr} {w : AW} {s : List SI} {Q : Fr → AW → Prop} (hb : b ≤ 9) (ht : t ≤ 7) (hp : p.length ≤ 800000)
    (hF : MnF f r b t) (f8 : f.get 8 = some (.str p)) (f9 : f.get 9 = some (.int .i64 (Int.ofNat i))) (f10 : f.get 10 = some (.int .i64 (Int.ofNat 0)))
    (h : ∀ f', MnF f' r b t → f'.get 8 = some (.str (p ++ mLitT t b)) → f'.get 9 = some (.int .i64 (Int.ofNat i)) → WS tab s f' w Q) : WS tab (.code (.loop k_law8_SyntaxMany_p9) :: .endB 2 :: s) f w Q := by
  refine WS_loopJ (fun n f' w' => ∃ j u, u = p ++ mLitT t j ∧ MnF f' r b t ∧ f'.get 8 = some (.str u) ∧ f'.get 9 = some (.int .i64 (Int.ofNat i)) ∧ f'.get 10 = some (.int .i64 (Int.ofNat j)) ∧ w' = w ∧ j ≤ b ∧ n = b - j) (fun f' w' => MnF f' r b t ∧ f'.get 8 = some (.str (p ++ mLitT t b)) ∧ f'.get 9 = some (.int .i64 (Int.ofNat i)) ∧ w' = w) ?_ ?_ b
    ⟨0, p, by simp [mLitT], hF, f8, f9, f10, rfl, Nat.zero_le _, rfl⟩
  · rintro n f w' ⟨j, u, hu, ⟨f0, f1, f2⟩, f8, f9, f10, rfl, hj, rfl⟩ ih out
    by_cases hlt : j < b
    case neg =>
      obtain rfl : j = b := by omega
      refine WS_runB 1000 (by simp only [go_sem, Nat.reduceAdd, Nat.reduceLT, Nat.reduceEqDiff, reduceIte, reduceCtorEq, Nat.reduceLeDiff, k_law8_SyntaxMany_p9, f1, f10, hlt]; rfl) ?_
      exact out _ _ _ ⟨⟨(by simp only [go_sem, eRun_exit, Nat.reduceAdd, Nat.reduceLT, Nat.reduceEqDiff, reduceIte, reduceCtorEq, Nat.reduceLeDiff, f0] <;> rfl), (by simp only [go_sem, eRun_exit, Nat.reduceAdd, Nat.reduceLT, Nat.reduceEqDiff, reduceIte, reduceCtorEq, Nat.reduceLeDiff, f1] <;> rfl), (by simp only [go_sem, eRun_exit, Nat.reduceAdd, Nat.reduceLT, Nat.reduceEqDiff, reduceIte, reduceCtorEq, Nat.reduceLeDiff, f2] <;> rfl)⟩, by rw [← hu]; exact (by simp only [go_sem, eRun_exit, Nat.reduceAdd, Nat.reduceLT, Nat.reduceEqDiff, reduceIte, reduceCtorEq, Nat.reduceLeDiff, f8] <;> rfl), (by simp only [go_sem, eRun_exit, Nat.reduceAdd, Nat.reduceLT, Nat.reduceEqDiff, reduceIte, reduceCtorEq, Nat.reduceLeDiff, f9] <;> rfl), rfl⟩ rfl
    have hal := mLitT_len t j
    have hm : (7 + 2 * t) * j ≤ 21 * 9 := Nat.mul_le_mul (by omega) (by omega)
    have hul : u.length ≤ 800200 := by rw [hu, List.length_append]; omega
    have hwr : IntKind.wrap .i64 (Int.ofNat j + 1) = Int.ofNat (j + 1) := wrap_succ (by omega)
    -- behind the sign
    have rest : ∀ {c1 : List Nat} {fr : Fr}, c1 = u ++ (if j = 0 then [32, 58, 45, 32] else [44, 32]) → MnF fr r b t → fr.get 8 = some (.str c1) → fr.get 9 = some (.int .i64 (Int.ofNat i)) → fr.get 10 = some (.int .i64 (Int.ofNat j)) →
        WS tab (.code k_law8_SyntaxMany_p7 :: .endB 3 :: .code (.region [⟨some 49, none, .mov (.tmp 10)⟩, ⟨some 50, none, .bin .add (.tmp 49) (.const (.int .i64 1))⟩, ⟨some 10, none, .mov (.tmp 50)⟩]) :: .code (.loop k_law8_SyntaxMany_p9) :: .endB 2 :: s) fr w' Q := by
      rintro c1 fr hc1 ⟨f0, f1, f2⟩ f8 f9 f10
      have hc1l : c1.length ≤ 800204 := by rw [hc1, List.length_append]; split <;> simp <;> omega
      obtain ⟨c2, hc2, e2⟩ := addS c1 [113, 40] (by simp; omega)
      have hc2l : c2.length ≤ 800206 := by rw [hc2, List.length_append]; simp; omega
      refine WS_run 1000 (by simp only [go_sem, eRun_exit, Nat.reduceAdd, Nat.reduceLT, Nat.reduceEqDiff, reduceIte, reduceCtorEq, Nat.reduceLeDiff, k_law8_SyntaxMany_p7, f8, e2]; rfl) ?_
      refine mn_terms C (r := r) (b := b) (t := t) (i := i) (k := j) (p := c2) ht (by omega) ⟨(by simp only [go_sem, eRun_exit, Nat.reduceAdd, Nat.reduceLT, Nat.reduceEqDiff, reduceIte, reduceCtorEq, Nat.reduceLeDiff, f0] <;> rfl), (by simp only [go_sem, eRun_exit, Nat.reduceAdd, Nat.reduceLT, Nat.reduceEqDiff, reduceIte, reduceCtorEq, Nat.reduceLeDiff, f1] <;> rfl), (by simp only [go_sem, eRun_exit, Nat.reduceAdd, Nat.reduceLT, Nat.reduceEqDiff, reduceIte, reduceCtorEq, Nat.reduceLeDiff, f2] <;> rfl)⟩ (by simp only [go_sem, eRun_exit, Nat.reduceAdd, Nat.reduceLT, Nat.reduceEqDiff, reduceIte, reduceCtorEq, Nat.reduceLeDiff] <;> rfl) (by simp only [go_sem, eRun_exit, Nat.reduceAdd, Nat.reduceLT, Nat.reduceEqDiff, reduceIte, reduceCtorEq, Nat.reduceLeDiff, f9] <;> rfl) (by simp only [go_sem, eRun_exit, Nat.reduceAdd, Nat.reduceLT, Nat.reduceEqDiff, reduceIte, reduceCtorEq, Nat.reduceLeDiff, f10] <;> rfl) (by simp only [go_sem, eRun_exit, Nat.reduceAdd, Nat.reduceLT, Nat.reduceEqDiff, reduceIte, reduceCtorEq, Nat.reduceLeDiff] <;> rfl) ?_
      rintro f' ⟨f0, f1, f2⟩ f8 f9 f10
      have hal2 := mArgT_len t
      obtain ⟨c3, hc3, e3⟩ := addS (c2 ++ mArgT t) [41] (by rw [List.length_append]; simp; omega)
      generalize hc4 : c2 ++ mArgT t = c4 at f8 e3 hc3
      refine WS_run 1000 (by simp only [go_sem, eRun_exit, Nat.reduceAdd, Nat.reduceLT, Nat.reduceEqDiff, reduceIte, reduceCtorEq, Nat.reduceLeDiff, f8, f10, e3, hwr]; rfl) ?_
      refine ih _ _ _ (by omega) ⟨j + 1, c3, ?_, ⟨(by simp only [go_sem, eRun_exit, Nat.reduceAdd, Nat.reduceLT, Nat.reduceEqDiff, reduceIte, reduceCtorEq, Nat.reduceLeDiff, f0] <;> rfl), (by simp only [go_sem, eRun_exit, Nat.reduceAdd, Nat.reduceLT, Nat.reduceEqDiff, reduceIte, reduceCtorEq, Nat.reduceLeDiff, f1] <;> rfl), (by simp only [go_sem, eRun_exit, Nat.reduceAdd, Nat.reduceLT, Nat.reduceEqDiff, reduceIte, reduceCtorEq, Nat.reduceLeDiff, f2] <;> rfl)⟩, (by simp only [go_sem, eRun_exit, Nat.reduceAdd, Nat.reduceLT, Nat.reduceEqDiff, reduceIte, reduceCtorEq, Nat.reduceLeDiff] <;> rfl), (by simp only [go_sem, eRun_exit, Nat.reduceAdd, Nat.reduceLT, Nat.reduceEqDiff, reduceIte, reduceCtorEq, Nat.reduceLeDiff, f9] <;> rfl), (by simp only [go_sem, eRun_exit, Nat.reduceAdd, Nat.reduceLT, Nat.reduceEqDiff, reduceIte, reduceCtorEq, Nat.reduceLeDiff] <;> rfl), rfl, by omega, rfl⟩
      rw [hc3, ← hc4, hc2, hc1, hu]
      simp only [mLitT, List.append_assoc]
    by_cases h0 : j = 0
    · obtain ⟨c1, hc1, e1⟩ := addS u [32, 58, 45, 32] (by simp; omega)
      subst h0
      refine WS_runB 1000 (by simp only [go_sem, eRun_exit, Nat.reduceAdd, Nat.reduceLT, Nat.reduceEqDiff, reduceIte, reduceCtorEq, Nat.reduceLeDiff, k_law8_SyntaxMany_p9, k_law8_SyntaxMany_p8, k_law8_SyntaxMany_p2, f1, f8, f10, hlt, e1]; rfl) ?_
      exact rest (c1 := c1) (by rw [hc1]; rfl) ⟨(by simp only [go_sem, eRun_exit, Nat.reduceAdd, Nat.reduceLT, Nat.reduceEqDiff, reduceIte, reduceCtorEq, Nat.reduceLeDiff, f0] <;> rfl), (by simp only [go_sem, eRun_exit, Nat.reduceAdd, Nat.reduceLT, Nat.reduceEqDiff, reduceIte, reduceCtorEq, Nat.reduceLeDiff, f1] <;> rfl), (by simp only [go_sem, eRun_exit, Nat.reduceAdd, Nat.reduceLT, Nat.reduceEqDiff, reduceIte, reduceCtorEq, Nat.reduceLeDiff, f2] <;> rfl)⟩ (by simp only [go_sem, eRun_exit, Nat.reduceAdd, Nat.reduceLT, Nat.reduceEqDiff, reduceIte, reduceCtorEq, Nat.reduceLeDiff] <;> rfl) (by simp only [go_sem, eRun_exit, Nat.reduceAdd, Nat.reduceLT, Nat.reduceEqDiff, reduceIte, reduceCtorEq, Nat.reduceLeDiff, f9] <;> rfl) (by simp only [go_sem, eRun_exit, Nat.reduceAdd, Nat.reduceLT, Nat.reduceEqDiff, reduceIte, reduceCtorEq, Nat.reduceLeDiff, f10] <;> rfl)
    · obtain ⟨c1, hc1, e1⟩ := addS u [44, 32] (by simp; omega)
      refine WS_runB 1000 (by simp only [go_sem, eRun_exit, Nat.reduceAdd, Nat.reduceLT, Nat.reduceEqDiff, reduceIte, reduceCtorEq, Nat.reduceLeDiff, k_law8_SyntaxMany_p9, k_law8_SyntaxMany_p8, k_law8_SyntaxMany_p3, f1, f8, f10, hlt, h0, e1]; rfl) ?_
      exact rest (c1 := c1) (by rw [hc1, if_neg h0]) ⟨(by simp only [go_sem, eRun_exit, Nat.reduceAdd, Nat.reduceLT, Nat.reduceEqDiff, reduceIte, reduceCtorEq, Nat.reduceLeDiff, f0] <;> rfl), (by simp only [go_sem, eRun_exit, Nat.reduceAdd, Nat.reduceLT, Nat.reduceEqDiff, reduceIte, reduceCtorEq, Nat.reduceLeDiff, f1] <;> rfl), (by simp only [go_sem, eRun_exit, Nat.reduceAdd, Nat.reduceLT, Nat.reduceEqDiff, reduceIte, reduceCtorEq, Nat.reduceLeDiff, f2] <;> rfl)⟩ (by simp only [go_sem, eRun_exit, Nat.reduceAdd, Nat.reduceLT, Nat.reduceEqDiff, reduceIte, reduceCtorEq, Nat.reduceLeDiff] <;> rfl) (by simp only [go_sem, eRun_exit, Nat.reduceAdd, Nat.reduceLT, Nat.reduceEqDiff, reduceIte, reduceCtorEq, Nat.reduceLeDiff, f9] <;> rfl) (by simp only [go_sem, eRun_exit, Nat.reduceAdd, Nat.reduceLT, Nat.reduceEqDiff, reduceIte, reduceCtorEq, Nat.reduceLeDiff, f10] <;> rfl)
  · rintro f w' ⟨h1, h2, h3, rfl⟩
    exact h f h1 h2 h3
theorem mn_rules (C : Codes tab) {r b t : Nat} {f : Fr} {w : AW} {s : List SI} {Q : Fr → AW → Prop} (hr : r ≤ 40) (hb : b ≤ 9) (ht : t ≤ 7)
    (hF : MnF f r b t) (f8 : f.get 8 = some (.str [])) (f9 : f.get 9 = some (.int .i64 (Int.ofNat 0)))
    (h : ∀ f', MnF f' r b t → f'.get 8 = some (.str (mT b t r)) → WS tab s f' w Q) : WS tab (.code (.loop k_law8_SyntaxMany_p11) :: .endB 0 :: s) f w Q := by
  refine WS_loopJ (fun n f' w' => ∃ j u, u = mT b t j ∧ MnF f' r b t ∧ f'.get 8 = some (.str u) ∧ f'.get 9 = some (.int .i64 (Int.ofNat j)) ∧ w' = w ∧ j ≤ r ∧ n = r - j) (fun f' w' => MnF f' r b t ∧ f'.get 8 = some (.str (mT b t r)) ∧ w' = w) ?_ ?_ r
    ⟨0, [], rfl, hF, f8, f9, rfl, Nat.zero_le _, rfl⟩
  · rintro n f w' ⟨j, u, hu, ⟨f0, f1, f2⟩, f8, f9, rfl, hj, rfl⟩ ih out
    by_cases hlt : j < r
    case neg =>
      obtain rfl : j = r := by omega
      refine WS_runB 1000 (by simp only [go_sem, Nat.reduceAdd, Nat.reduceLT, Nat.reduceEqDiff, reduceIte, reduceCtorEq, Nat.reduceLeDiff, k_law8_SyntaxMany_p11, f0, f9, hlt]; rfl) ?_
      exact out _ _ _ ⟨⟨(by simp only [go_sem, eRun_exit, Nat.reduceAdd, Nat.reduceLT, Nat.reduceEqDiff, reduceIte, reduceCtorEq, Nat.reduceLeDiff, f0] <;> rfl), (by simp only [go_sem, eRun_exit, Nat.reduceAdd, Nat.reduceLT, Nat.reduceEqDiff, reduceIte, reduceCtorEq, Nat.reduceLeDiff, f1] <;> rfl), (by simp only [go_sem, eRun_exit, Nat.reduceAdd, Nat.reduceLT, Nat.reduceEqDiff, reduceIte, reduceCtorEq, Nat.reduceLeDiff, f2] <;> rfl)⟩, by rw [← hu]; exact (by simp only [go_sem, eRun_exit, Nat.reduceAdd, Nat.reduceLT, Nat.reduceEqDiff, reduceIte, reduceCtorEq, Nat.reduceLeDiff, f8] <;> rfl), rfl⟩ rfl
    have hal := mT_len b t j
    have hm1 : (7 + 2 * t) * b ≤ 21 * 9 := Nat.mul_le_mul (by omega) (by omega)
    have hm : (3 + (7 + 2 * t) * b) * j ≤ 192 * 40 := Nat.mul_le_mul (by omega) (by omega)
    have hul : u.length ≤ 7680 := by rw [hu]; omega
    have hwr : IntKind.wrap .i64 (Int.ofNat j + 1) = Int.ofNat (j + 1) := wrap_succ (by omega)
    obtain ⟨c1, hc1, e1⟩ := addS u [112] (by simp; omega)
    have hc1l : c1.length ≤ 7681 := by rw [hc1, List.length_append]; simp; omega
    refine WS_run 1000 (by simp only [go_sem, eRun_exit, Nat.reduceAdd, Nat.reduceLT, Nat.reduceEqDiff, reduceIte, reduceCtorEq, Nat.reduceLeDiff, k_law8_SyntaxMany_p11, k_law8_SyntaxMany_p10, f0, f8, f9, hlt, e1]; rfl) ?_
    refine mn_lits C (r := r) (b := b) (t := t) (i := j) (p := c1) hb ht (by omega) ⟨(by simp only [go_sem, eRun_exit, Nat.reduceAdd, Nat.reduceLT, Nat.reduceEqDiff, reduceIte, reduceCtorEq, Nat.reduceLeDiff, f0] <;> rfl), (by simp only [go_sem, eRun_exit, Nat.reduceAdd, Nat.reduceLT, Nat.reduceEqDiff, reduceIte, reduceCtorEq, Nat.reduceLeDiff, f1] <;> rfl), (by simp only [go_sem, eRun_exit, Nat.reduceAdd, Nat.reduceLT, Nat.reduceEqDiff, reduceIte, reduceCtorEq, Nat.reduceLeDiff, f2] <;> rfl)⟩ (by simp only [go_sem, eRun_exit, Nat.reduceAdd, Nat.reduceLT, Nat.reduceEqDiff, reduceIte, reduceCtorEq, Nat.reduceLeDiff] <;> rfl) (by simp only [go_sem, eRun_exit, Nat.reduceAdd, Nat.reduceLT, Nat.reduceEqDiff, reduceIte, reduceCtorEq, Nat.reduceLeDiff, f9] <;> rfl) (by simp only [go_sem, eRun_exit, Nat.reduceAdd, Nat.reduceLT, Nat.reduceEqDiff, reduceIte, reduceCtorEq, Nat.reduceLeDiff] <;> rfl) ?_
    rintro f' ⟨f0, f1, f2⟩ f8 f9
    have hal2 := mLitT_len t b
    obtain ⟨c3, hc3, e3⟩ := addS (c1 ++ mLitT t b) [46, 10] (by rw [List.length_append]; simp; omega)
    generalize hc4 : c1 ++ mLitT t b = c4 at f8 e3 hc3
    refine WS_run 1000 (by simp only [go_sem, eRun_exit, Nat.reduceAdd, Nat.reduceLT, Nat.reduceEqDiff, reduceIte, reduceCtorEq, Nat.reduceLeDiff, f8, f9, e3, hwr]; rfl) ?_
    refine ih _ _ _ (by omega) ⟨j + 1, c3, ?_, ⟨(by simp only [go_sem, eRun_exit, Nat.reduceAdd, Nat.reduceLT, Nat.reduceEqDiff, reduceIte, reduceCtorEq, Nat.reduceLeDiff, f0] <;> rfl), (by simp only [go_sem, eRun_exit, Nat.reduceAdd, Nat.reduceLT, Nat.reduceEqDiff, reduceIte, reduceCtorEq, Nat.reduceLeDiff, f1] <;> rfl), (by simp only [go_sem, eRun_exit, Nat.reduceAdd, Nat.reduceLT, Nat.reduceEqDiff, reduceIte, reduceCtorEq, Nat.reduceLeDiff, f2] <;> rfl)⟩, (by simp only [go_sem, eRun_exit, Nat.reduceAdd, Nat.reduceLT, Nat.reduceEqDiff, reduceIte, reduceCtorEq, Nat.reduceLeDiff] <;> rfl), (by simp only [go_sem, eRun_exit, Nat.reduceAdd, Nat.reduceLT, Nat.reduceEqDiff, reduceIte, reduceCtorEq, Nat.reduceLeDiff] <;> rfl), rfl, by omega, rfl⟩
    rw [hc3, ← hc4, hc1, hu]
    simp only [mT, List.append_assoc]
  · rintro f w' ⟨h1, h2, rfl⟩
    exact h f h1 h2
theorem mArgT_bytes : ∀ n, ∀ x ∈ mArgT n, x < 256
  | 0 => by simp [mArgT]
  | n + 1 => by
    intro x hx
    simp only [mArgT, List.mem_append] at hx
    rcases hx with (hx | hx) | hx
    · exact mArgT_bytes n x hx
    · split at hx <;> simp at hx; omega
    · simp at hx; omega
theorem mLitT_bytes (t : Nat) : ∀ n, ∀ x ∈ mLitT t n, x < 256
  | 0 => by simp [mLitT]
  | n + 1 => by
    intro x hx
    simp only [mLitT, List.mem_append] at hx
    rcases hx with (((hx | hx) | hx) | hx) | hx
    · exact mLitT_bytes t n x hx
    · split at hx <;> simp at hx <;> omega
    · simp at hx; omega
    · exact mArgT_bytes t x hx
    · simp at hx; omega
theorem mT_bytes (b t : Nat) : ∀ n, ∀ x ∈ mT b t n, x < 256
  | 0 => by simp [mT]
  | n + 1 => by
    intro x hx
    simp only [mT, List.mem_append] at hx
    rcases hx with ((hx | hx) | hx) | hx
    · exact mT_bytes b t n x hx
    · simp at hx; omega
    · exact mLitT_bytes t b x hx
    · simp at hx; omega
theorem syntaxMany_law (C : Codes tab) (F : Formats tab) (PI : Parses tab) (J : Joins tab) (E : ExtIdx tab) {r b t : Int} {aw : AW} : WF tab n_law8_SyntaxMany [.int .i64 r, .int .i64 b, .int .i64 t] aw (fun v aw' => v = .bool true ∧ Frm (fun _ => False) aw aw') := by
  refine WF_of C.c_law8_SyntaxMany rfl ?_
  refine WS_run 1000 (by simp only [go_sem, eRun_exit, Nat.reduceAdd, Nat.reduceLT, Nat.reduceEqDiff, reduceIte, reduceCtorEq, Nat.reduceLeDiff, k_law8_SyntaxMany]; rfl) ?_
  refine WS_call (by simp only [go_sem, eRun_exit, Nat.reduceAdd, Nat.reduceLT, Nat.reduceEqDiff, reduceIte, reduceCtorEq, Nat.reduceLeDiff]) (by simp only [go_sem, eRun_exit, Nat.reduceAdd, Nat.reduceLT, Nat.reduceEqDiff, reduceIte, reduceCtorEq, Nat.reduceLeDiff]; rfl) ?_
  refine begun8_ok C F PI J E fun w0 g0 => ?_
  by_cases h1 : r < 1
  · refine WS_run 1000 (by simp only [go_sem, eRun_exit, Nat.reduceAdd, Nat.reduceLT, Nat.reduceEqDiff, reduceIte, reduceCtorEq, Nat.reduceLeDiff, k_law8_SyntaxMany_p16, k_law8_SyntaxMany_p1, h1]; rfl) ?_
    refine WS_ret ⟨_, by simp only [go_sem, eRun_exit, Nat.reduceAdd, Nat.reduceLT, Nat.reduceEqDiff, reduceIte, reduceCtorEq, Nat.reduceLeDiff, k_law8_SyntaxMany]; rfl, ?_⟩
    exact ⟨rfl, g0⟩
  by_cases h2 : r > 40
  · refine WS_run 1000 (by simp only [go_sem, eRun_exit, Nat.reduceAdd, Nat.reduceLT, Nat.reduceEqDiff, reduceIte, reduceCtorEq, Nat.reduceLeDiff, k_law8_SyntaxMany_p16, k_law8_SyntaxMany_p1, h1, h2]; rfl) ?_
    refine WS_ret ⟨_, by simp only [go_sem, eRun_exit, Nat.reduceAdd, Nat.reduceLT, Nat.reduceEqDiff, reduceIte, reduceCtorEq, Nat.reduceLeDiff, k_law8_SyntaxMany]; rfl, ?_⟩
    exact ⟨rfl, g0⟩
  by_cases h3 : b < 0
  · refine WS_run 1000 (by simp only [go_sem, eRun_exit, Nat.reduceAdd, Nat.reduceLT, Nat.reduceEqDiff, reduceIte, reduceCtorEq, Nat.reduceLeDiff, k_law8_SyntaxMany_p16, k_law8_SyntaxMany_p1, h1, h2, h3]; rfl) ?_
    refine WS_ret ⟨_, by simp only [go_sem, eRun_exit, Nat.reduceAdd, Nat.reduceLT, Nat.reduceEqDiff, reduceIte, reduceCtorEq, Nat.reduceLeDiff, k_law8_SyntaxMany]; rfl, ?_⟩
    exact ⟨rfl, g0⟩
  by_cases h4 : b > 9
  · refine WS_run 1000 (by simp only [go_sem, eRun_exit, Nat.reduceAdd, Nat.reduceLT, Nat.reduceEqDiff, reduceIte, reduceCtorEq, Nat.reduceLeDiff, k_law8_SyntaxMany_p16, k_law8_SyntaxMany_p1, h1, h2, h3, h4]; rfl) ?_
    refine WS_ret ⟨_, by simp only [go_sem, eRun_exit, Nat.reduceAdd, Nat.reduceLT, Nat.reduceEqDiff, reduceIte, reduceCtorEq, Nat.reduceLeDiff, k_law8_SyntaxMany]; rfl, ?_⟩
    exact ⟨rfl, g0⟩
  by_cases h5 : t < 1
  · refine WS_run 1000 (by simp only [go_sem, eRun_exit, Nat.reduceAdd, Nat.reduceLT, Nat.reduceEqDiff, reduceIte, reduceCtorEq, Nat.reduceLeDiff, k_law8_SyntaxMany_p16, k_law8_SyntaxMany_p1, h1, h2, h3, h4, h5]; rfl) ?_
    refine WS_ret ⟨_, by simp only [go_sem, eRun_exit, Nat.reduceAdd, Nat.reduceLT, Nat.reduceEqDiff, reduceIte, reduceCtorEq, Nat.reduceLeDiff, k_law8_SyntaxMany]; rfl, ?_⟩
    exact ⟨rfl, g0⟩
  by_cases h6 : t > 7
  · refine WS_run 1000 (by simp only [go_sem, eRun_exit, Nat.reduceAdd, Nat.reduceLT, Nat.reduceEqDiff, reduceIte, reduceCtorEq, Nat.reduceLeDiff, k_law8_SyntaxMany_p16, k_law8_SyntaxMany_p1, h1, h2, h3, h4, h5, h6]; rfl) ?_
    refine WS_ret ⟨_, by simp only [go_sem, eRun_exit, Nat.reduceAdd, Nat.reduceLT, Nat.reduceEqDiff, reduceIte, reduceCtorEq, Nat.reduceLeDiff, k_law8_SyntaxMany]; rfl, ?_⟩
    exact ⟨rfl, g0⟩
  refine WS_run 1000 (by simp only [go_sem, eRun_exit, Nat.reduceAdd, Nat.reduceLT, Nat.reduceEqDiff, reduceIte, reduceCtorEq, Nat.reduceLeDiff, k_law8_SyntaxMany_p16, h1, h2, h3, h4, h5, h6]; rfl) ?_
  obtain ⟨r, rfl⟩ := Int.eq_ofNat_of_zero_le (show 0 ≤ r by omega)
  obtain ⟨b, rfl⟩ := Int.eq_ofNat_of_zero_le (show 0 ≤ b by omega)
  obtain ⟨t, rfl⟩ := Int.eq_ofNat_of_zero_le (show 0 ≤ t by omega)
  refine mn_rules C (r := r) (b := b) (t := t) (by omega) (by omega) (by omega) ⟨(by simp only [go_sem, eRun_exit, Nat.reduceAdd, Nat.reduceLT, Nat.reduceEqDiff, reduceIte, reduceCtorEq, Nat.reduceLeDiff] <;> rfl), (by simp only [go_sem, eRun_exit, Nat.reduceAdd, Nat.reduceLT, Nat.reduceEqDiff, reduceIte, reduceCtorEq, Nat.reduceLeDiff] <;> rfl), (by simp only [go_sem, eRun_exit, Nat.reduceAdd, Nat.reduceLT, Nat.reduceEqDiff, reduceIte, reduceCtorEq, Nat.reduceLeDiff] <;> rfl)⟩ (by simp only [go_sem, eRun_exit, Nat.reduceAdd, Nat.reduceLT, Nat.reduceEqDiff, reduceIte, reduceCtorEq, Nat.reduceLeDiff] <;> rfl) (by simp only [go_sem, eRun_exit, Nat.reduceAdd, Nat.reduceLT, Nat.reduceEqDiff, reduceIte, reduceCtorEq, Nat.reduceLeDiff] <;> rfl) ?_
  rintro f ⟨f0, f1, f2⟩ f8
  obtain ⟨hbad, hgood⟩ := rProgram_many (rules := r) (body := b) (terms := t) (by omega) (by omega) (by omega) (by omega) (by omega)
  have hml := mT_len b t r
  have hm1 : (7 + 2 * t) * b ≤ 21 * 9 := Nat.mul_le_mul (by omega) (by omega)
  have hm : (3 + (7 + 2 * t) * b) * r ≤ 192 * 40 := Nat.mul_le_mul (by omega) (by omega)
  have hmb := mT_bytes b t r
  generalize mT b t r = u at *
  refine WS_run 1000 (by simp only [go_sem, eRun_exit, Nat.reduceAdd, Nat.reduceLT, Nat.reduceEqDiff, reduceIte, reduceCtorEq, Nat.reduceLeDiff, k_law8_SyntaxMany_p15, f8]; rfl) ?_
  refine WS_call (by simp only [go_sem, eRun_exit, Nat.reduceAdd, Nat.reduceLT, Nat.reduceEqDiff, reduceIte, reduceCtorEq, Nat.reduceLeDiff]) (by simp only [go_sem, eRun_exit, Nat.reduceAdd, Nat.reduceLT, Nat.reduceEqDiff, reduceIte, reduceCtorEq, Nat.reduceLeDiff]; rfl) ?_
  refine sprogram_ok C PI E (by omega) hmb fun w1 v T q1 q2 q3 => ?_
  have hv : lenV v = some (rProgram u).1.length := by obtain ⟨xss, h1, _⟩ := q1; exact h1.lenV
  have fine : ∀ w, Frm (fun _ => False) w1 w → Frm (fun _ => False) aw w := fun w g => (g0.tr q2).tr g
  have e30 : ∀ n k : Nat, (Int.ofNat n > Int.ofNat k) = (k < n) := fun n k => by
    apply propext
    show ((k : Int) < (n : Int)) ↔ _
    omega
  by_cases hc : 30 < r ∨ 6 < b ∨ (0 < b ∧ 4 < t)
  · rw [hbad hc] at hv ⊢
    have hv : lenV v = some 0 := hv
    by_cases c1 : 30 < r
    · refine WS_run 1000 (by simp only [go_sem, eRun_exit, Nat.reduceAdd, Nat.reduceLT, Nat.reduceEqDiff, reduceIte, reduceCtorEq, Nat.reduceLeDiff, k_law8_SyntaxMany_p14, k_law8_SyntaxMany_p12, f0, c1, hv]; rfl) ?_
      refine WS_ret ⟨_, by simp only [go_sem, eRun_exit, Nat.reduceAdd, Nat.reduceLT, Nat.reduceEqDiff, reduceIte, reduceCtorEq, Nat.reduceLeDiff, k_law8_SyntaxMany]; rfl, ?_⟩
      exact ⟨rfl, fine _ (Frm.refl _)⟩
    · by_cases c2 : 6 < b
      · refine WS_run 1000 (by simp only [go_sem, eRun_exit, Nat.reduceAdd, Nat.reduceLT, Nat.reduceEqDiff, reduceIte, reduceCtorEq, Nat.reduceLeDiff, k_law8_SyntaxMany_p14, k_law8_SyntaxMany_p12, f0, f1, c1, c2, hv]; rfl) ?_
        refine WS_ret ⟨_, by simp only [go_sem, eRun_exit, Nat.reduceAdd, Nat.reduceLT, Nat.reduceEqDiff, reduceIte, reduceCtorEq, Nat.reduceLeDiff, k_law8_SyntaxMany]; rfl, ?_⟩
        exact ⟨rfl, fine _ (Frm.refl _)⟩
      · have c3 : 0 < b ∧ 4 < t := by omega
        have c4 := c3.1
        have c5 := c3.2
        refine WS_run 1000 (by simp only [go_sem, eRun_exit, Nat.reduceAdd, Nat.reduceLT, Nat.reduceEqDiff, reduceIte, reduceCtorEq, Nat.reduceLeDiff, k_law8_SyntaxMany_p14, k_law8_SyntaxMany_p12, f0, f1, f2, c1, c2, c4, c5, hv]; rfl) ?_
        refine WS_ret ⟨_, by simp only [go_sem, eRun_exit, Nat.reduceAdd, Nat.reduceLT, Nat.reduceEqDiff, reduceIte, reduceCtorEq, Nat.reduceLeDiff, k_law8_SyntaxMany]; rfl, ?_⟩
        exact ⟨rfl, fine _ (Frm.refl _)⟩
  · rw [hgood hc] at hv ⊢
    have hv : lenV v = some r := by rw [hv]; simp
    have c1 : ¬ 30 < r := fun h => hc (.inl h)
    have c2 : ¬ 6 < b := fun h => hc (.inr (.inl h))
    have hself : Nat.beq r r = true := Nat.beq_refl r
    by_cases c4 : 0 < b
    · have c5 : ¬ 4 < t := fun h => hc (.inr (.inr ⟨c4, h⟩))
      refine WS_run 1000 (by simp only [go_sem, eRun_exit, Nat.reduceAdd, Nat.reduceLT, Nat.reduceEqDiff, reduceIte, reduceCtorEq, Nat.reduceLeDiff, k_law8_SyntaxMany_p14, k_law8_SyntaxMany_p13, f0, f1, f2, c1, c2, c4, c5, hv]; rfl) ?_
      refine WS_ret ⟨_, by simp only [go_sem, eRun_exit, Nat.reduceAdd, Nat.reduceLT, Nat.reduceEqDiff, reduceIte, reduceCtorEq, Nat.reduceLeDiff, k_law8_SyntaxMany]; rfl, ?_⟩
      exact ⟨rfl, fine _ (Frm.refl _)⟩
    · refine WS_run 1000 (by simp only [go_sem, eRun_exit, Nat.reduceAdd, Nat.reduceLT, Nat.reduceEqDiff, reduceIte, reduceCtorEq, Nat.reduceLeDiff, k_law8_SyntaxMany_p14, k_law8_SyntaxMany_p13, f0, f1, f2, c1, c2, c4, hv]; rfl) ?_
      refine WS_ret ⟨_, by simp only [go_sem, eRun_exit, Nat.reduceAdd, Nat.reduceLT, Nat.reduceEqDiff, reduceIte, reduceCtorEq, Nat.reduceLeDiff, k_law8_SyntaxMany]; rfl, ?_⟩
      exact ⟨rfl, fine _ (Frm.refl _)⟩
end Go.Proofs.YtpbdojjfokelaaaDoor
