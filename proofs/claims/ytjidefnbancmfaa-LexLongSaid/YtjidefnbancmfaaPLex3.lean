/- A part of the proof. -/
import Derived.Test.YtjidefnbancmfaaPLex2
set_option linter.unusedVariables false
set_option linter.unusedSimpArgs false
namespace Go.Proofs.Ytjidefnbancmfaa
open Go.AE Delphi
variable {tab : Tab}
def twos : List (List Nat) := [[58, 45], [33, 61], [60, 61]]
def ones : List (List Nat) := [[40], [41], [44], [46], [33], [61], [60]]
theorem signs_find (p : List Nat → Bool) : signs.find? p = (match twos.find? p with | some g => some g | none => ones.find? p) := by
  show (twos ++ ones).find? p = _
  rw [List.find?_append]
  cases twos.find? p <;> rfl
def isOne (c : Nat) : Bool := decide (c = 40) || (decide (c = 41) || (decide (c = 44) || (decide (c = 46) || (decide (c = 33) || (decide (c = 61) || decide (c = 60))))))
theorem ones_find (c : Nat) (t : List Nat) : ones.find? (fun g => g.isPrefixOf (c :: t)) = if isOne c then some [c] else none := by
  simp only [ones, isOne]
  by_cases h1 : c = 40
  · subst h1; rfl
  by_cases h2 : c = 41
  · subst h2; rfl
  by_cases h3 : c = 44
  · subst h3; rfl
  by_cases h4 : c = 46
  · subst h4; rfl
  by_cases h5 : c = 33
  · subst h5; rfl
  by_cases h6 : c = 61
  · subst h6; rfl
  by_cases h7 : c = 60
  · subst h7; rfl
  have e : ∀ n : Nat, ¬ c = n → (n == c) = false := fun n hn => beq_eq_false_iff_ne.2 (Ne.symm hn)
  simp [List.find?, List.isPrefixOf, h1, h2, h3, h4, h5, h6, h7, e 40 h1, e 41 h2, e 44 h3, e 46 h4, e 33 h5, e 61 h6, e 60 h7]
theorem two_prefix {g s : List Nat} (hg : g.length = 2) : g.isPrefixOf s = (decide (2 ≤ s.length) && eqL (s.take 2) g) := by
  rw [isPrefix_take, hg]
def k48s : ACode := (.seq (.region [⟨some 112, none, .buildSlice 3 [(.str []), (.str []), (.str [])] [(0, 1, (.const (.str [58, 45]))), (1, 1, (.const (.str [33, 61]))), (2, 1, (.const (.str [60, 61])))]⟩,
  ⟨some 5, none, .mov (.tmp 112)⟩])
 (.seq (.seq (.region [⟨some 6, none, .mov (.const (.int .i64 0))⟩])
 (.block 7 (.loop k48_9)))
 (.seq (.seq (.region [⟨some 129, none, .mov (.tmp 0)⟩,
  ⟨some 130, none, .indexStr (.tmp 129) (.const (.int .i64 0))⟩])
 (.block 9 k48_13))
 (.seq (.region [⟨some 2, none, .mov (.const (.int .i64 0))⟩,
  ⟨some 3, none, .mov (.const (.int .i64 0))⟩])
 .ret))))
set_option maxRecDepth 10000 in
theorem rword_ok (C : Codes tab) {c : Nat} {t : List Nat} {aw : AW} {K : V → AW → Prop} (hs : (c :: t).length ≤ 4611686018427387904)
    (h : ∀ kind aw', ((lexWord (c :: t)).2 ≠ 0 → kind = (lexWord (c :: t)).1) → Ext aw.next aw aw' → K (.tuple [.int .i64 (Int.ofNat (lexWord (c :: t)).2), .int .i64 (Int.ofNat kind)]) aw') : WF tab 48 [.str (c :: t)] aw K := by
  refine WF_of C.c48 rfl ?_
  have h1l : 1 ≤ (c :: t).length := by simp
  refine WS_run 1000 (by simp only [go_sem, Nat.reduceAdd, Nat.reduceLT, Nat.reduceEqDiff, reduceIte, reduceCtorEq, k48, k48_7]; rfl) ?_
  refine WS_call (by simp only [go_sem, Nat.reduceAdd, Nat.reduceLT, Nat.reduceEqDiff, reduceIte, reduceCtorEq]) (by simp only [go_sem, Nat.reduceAdd, Nat.reduceLT, Nat.reduceEqDiff, reduceIte, reduceCtorEq]; rfl) ?_
  refine rsmall_ok C ?_
  cases h1 : isSmall c with
  | true =>
    have hl : lexWord (c :: t) = (1, 1 + (t.takeWhile isNamed).length) := by
      have : isNamed c = true := by simp [isNamed, h1]
      simp only [lexWord, h1, if_true, List.takeWhile_cons_of_pos this, List.length_cons, Nat.add_comm]
    rw [hl] at h
    refine WS_run 1000 (by simp only [go_sem, Nat.reduceAdd, Nat.reduceLT, Nat.reduceEqDiff, reduceIte, reduceCtorEq]; rfl) ?_
    refine rl0 C hs h1l (by simp only [go_sem, Nat.reduceAdd, Nat.reduceLT, Nat.reduceEqDiff, reduceIte, reduceCtorEq] <;> rfl) (by simp only [go_sem, Nat.reduceAdd, Nat.reduceLT, Nat.reduceEqDiff, reduceIte, reduceCtorEq] <;> rfl) ?_
    intro f f0 f4
    simp only [List.drop_succ_cons, List.drop_zero] at f4
    refine WS_run 1000 (by simp only [go_sem, Nat.reduceAdd, Nat.reduceLT, Nat.reduceEqDiff, reduceIte, reduceCtorEq, f4]; rfl) ?_
    refine WS_ret ⟨_, by simp only [go_sem, Nat.reduceAdd, Nat.reduceLT, Nat.reduceEqDiff, reduceIte, reduceCtorEq, k48]; rfl, ?_⟩
    exact h 1 aw (fun _ => rfl) (Ext.refl aw)
  | false =>
    refine WS_run 1000 (by simp only [go_sem, Nat.reduceAdd, Nat.reduceLT, Nat.reduceEqDiff, reduceIte, reduceCtorEq, k48_6]; rfl) ?_
    refine WS_call (by simp only [go_sem, Nat.reduceAdd, Nat.reduceLT, Nat.reduceEqDiff, reduceIte, reduceCtorEq]) (by simp only [go_sem, Nat.reduceAdd, Nat.reduceLT, Nat.reduceEqDiff, reduceIte, reduceCtorEq]; rfl) ?_
    refine rgreat_ok C ?_
    cases h2 : isGreat c with
    | true =>
      have hl : lexWord (c :: t) = (2, 1 + (t.takeWhile isVarC).length) := by
        have : isVarC c = true := by simp [isVarC, h2]
        simp only [lexWord, h1, h2, if_true, Bool.false_eq_true, if_false, List.takeWhile_cons_of_pos this, List.length_cons, Nat.add_comm]
      rw [hl] at h
      refine WS_run 1000 (by simp only [go_sem, Nat.reduceAdd, Nat.reduceLT, Nat.reduceEqDiff, reduceIte, reduceCtorEq]; rfl) ?_
      refine rl1 C hs h1l (by simp only [go_sem, Nat.reduceAdd, Nat.reduceLT, Nat.reduceEqDiff, reduceIte, reduceCtorEq] <;> rfl) (by simp only [go_sem, Nat.reduceAdd, Nat.reduceLT, Nat.reduceEqDiff, reduceIte, reduceCtorEq] <;> rfl) ?_
      intro f f0 f4
      simp only [List.drop_succ_cons, List.drop_zero] at f4
      refine WS_run 1000 (by simp only [go_sem, Nat.reduceAdd, Nat.reduceLT, Nat.reduceEqDiff, reduceIte, reduceCtorEq, f4]; rfl) ?_
      refine WS_ret ⟨_, by simp only [go_sem, Nat.reduceAdd, Nat.reduceLT, Nat.reduceEqDiff, reduceIte, reduceCtorEq, k48]; rfl, ?_⟩
      exact h 2 aw (fun _ => rfl) (Ext.refl aw)
    | false =>
      refine WS_run 1000 (by simp only [go_sem, Nat.reduceAdd, Nat.reduceLT, Nat.reduceEqDiff, reduceIte, reduceCtorEq, k48_5]; rfl) ?_
      refine WS_call (by simp only [go_sem, Nat.reduceAdd, Nat.reduceLT, Nat.reduceEqDiff, reduceIte, reduceCtorEq]) (by simp only [go_sem, Nat.reduceAdd, Nat.reduceLT, Nat.reduceEqDiff, reduceIte, reduceCtorEq]; rfl) ?_
      refine rdigit_ok C ?_
      cases h3 : isDigit c with
      | true =>
        have h45 : ¬ c = 45 := by intro he; subst he; revert h3; decide
        have hd : (isDigit c || decide (c = 45)) = true := by simp [h3]
        have hl : lexWord (c :: t) = (3, if c = 48 then 1 else 1 + (t.takeWhile isDigit).length) := by
          simp only [lexWord, h1, h2, hd, if_true, Bool.false_eq_true, if_false, Prod.mk.injEq, true_and]
          unfold numberLen
          simp only [List.head?_cons, Option.some.injEq, h45, if_false, List.drop_zero, List.takeWhile_cons_of_pos h3, List.length_cons, List.getElem?_cons_zero]
          rw [if_neg (by omega), if_neg (by omega)]
          split
          · rfl
          · omega
        rw [hl] at h
        by_cases h48 : c = 48
        · refine WS_run 1000 (by simp only [go_sem, Nat.reduceAdd, Nat.reduceLT, Nat.reduceEqDiff, reduceIte, reduceCtorEq, k48_4, h45, h48]; rfl) ?_
          refine WS_ret ⟨_, by simp only [go_sem, Nat.reduceAdd, Nat.reduceLT, Nat.reduceEqDiff, reduceIte, reduceCtorEq, k48]; rfl, ?_⟩
          rw [if_pos h48] at h
          exact h 3 aw (fun _ => rfl) (Ext.refl aw)
        · refine WS_run 1000 (by simp only [go_sem, Nat.reduceAdd, Nat.reduceLT, Nat.reduceEqDiff, reduceIte, reduceCtorEq, k48_4, h45, h48]; rfl) ?_
          refine rl3 C hs h1l (by simp only [go_sem, Nat.reduceAdd, Nat.reduceLT, Nat.reduceEqDiff, reduceIte, reduceCtorEq] <;> rfl) (by simp only [go_sem, Nat.reduceAdd, Nat.reduceLT, Nat.reduceEqDiff, reduceIte, reduceCtorEq] <;> rfl) ?_
          intro f f0 f4
          simp only [List.drop_succ_cons, List.drop_zero] at f4
          refine WS_run 1000 (by simp only [go_sem, Nat.reduceAdd, Nat.reduceLT, Nat.reduceEqDiff, reduceIte, reduceCtorEq, f4]; rfl) ?_
          refine WS_ret ⟨_, by simp only [go_sem, Nat.reduceAdd, Nat.reduceLT, Nat.reduceEqDiff, reduceIte, reduceCtorEq, k48]; rfl, ?_⟩
          rw [if_neg h48] at h
          exact h 3 aw (fun _ => rfl) (Ext.refl aw)
      | false =>
        -- no number: signs
        have hsg : ∀ fr : Fr, fr.get 0 = some (.str (c :: t)) → ((lexWord (c :: t)).2 = match signs.find? (fun g => g.isPrefixOf (c :: t)) with | some g => g.length | none => 0) → ((lexWord (c :: t)).2 ≠ 0 → (lexWord (c :: t)).1 = 4) →
            WS tab [.code k48s] fr aw (fun fr' aw' => ∃ vs, resV fr' aw' k48.results = some vs ∧ K (resOne vs) aw') := by
          intro fr f0 hn hk
          rw [signs_find, ones_find] at hn
          refine WS_run 1000 (by simp only [go_sem, Nat.reduceAdd, Nat.reduceLT, Nat.reduceEqDiff, reduceIte, reduceCtorEq, k48s, evParts, fillV, V.cells, List.length_cons, List.length_nil, over]; rfl) ?_
          have hload : ∀ (i : Nat) (g : List Nat), twos[i]? = some g → (aw.fresh [.str [58, 45], .str [33, 61], .str [60, 61]]).load aw.next (0 + i * 1) 1 = some [.str g] := by
            intro i g hg
            have hi : i < 3 := (List.getElem?_eq_some_iff.1 hg).1
            simp only [AW.load, AW.fresh, AW.new, T.get_putk, if_true, AW.alive, Nat.zero_add, Nat.mul_one]
            match i, hi with
            | 0, _ | 1, _ | 2, _ => simp [twos] at hg; subst hg; rfl
          have hext : Ext aw.next aw (aw.fresh [.str [58, 45], .str [33, 61], .str [60, 61]]) := Ext.new (Nat.le_refl _) _
          generalize aw.fresh [.str [58, 45], .str [33, 61], .str [60, 61]] = aw1 at hload hext
          refine WS_loop (fun n f w => ∃ i, f.get 0 = some (.str (c :: t)) ∧ f.get 5 = some (.slice aw.next 0 3 (.known 3)) ∧ f.get 6 = some (.int .i64 (Int.ofNat i)) ∧ twos.find? (fun g => g.isPrefixOf (c :: t)) = (twos.drop i).find? (fun g => g.isPrefixOf (c :: t)) ∧ i ≤ 3 ∧ n = 3 - i ∧ w = aw1) ?_ 3 ⟨0, (by simp only [go_sem, Nat.reduceAdd, Nat.reduceLT, Nat.reduceEqDiff, reduceIte, reduceCtorEq, f0] <;> rfl), (by simp only [go_sem, Nat.reduceAdd, Nat.reduceLT, Nat.reduceEqDiff, reduceIte, reduceCtorEq] <;> rfl), (by simp only [go_sem, Nat.reduceAdd, Nat.reduceLT, Nat.reduceEqDiff, reduceIte, reduceCtorEq] <;> rfl), rfl, by omega, rfl, rfl⟩
          rintro n f w ⟨i, f0, f5, f6, hf, hi, rfl, rfl⟩ ih
          by_cases hlt : i < 3
          · obtain ⟨g, hg⟩ : ∃ g, twos[i]? = some g := ⟨_, List.getElem?_eq_getElem (by simpa [twos] using hlt)⟩
            have hd : twos.drop i = g :: twos.drop (i + 1) := by
              have hl : i < twos.length := by simpa [twos] using hlt
              rw [List.drop_eq_getElem_cons hl]
              rw [List.getElem?_eq_getElem hl] at hg
              rw [Option.some.inj hg]
            have hg2 : g.length = 2 := by
              have hm := List.mem_of_getElem? hg
              simp only [twos, List.mem_cons, List.not_mem_nil, or_false] at hm
              rcases hm with rfl | rfl | rfl <;> rfl
            have hld := hload i g hg
            have hw : IntKind.wrap .i64 (Int.ofNat i + 1) = Int.ofNat (i + 1) := wrap_succ (by omega)
            have next : g.isPrefixOf (c :: t) = false → ∀ f', f'.get 0 = some (.str (c :: t)) → f'.get 5 = some (.slice aw.next 0 3 (.known 3)) → f'.get 6 = some (.int .i64 (Int.ofNat (i + 1))) → WS tab _ f' w _ := fun hp f' g0 g5 g6 =>
              ih (3 - (i + 1)) f' w (by omega) ⟨i + 1, g0, g5, g6, by rw [hf, hd, List.find?_cons_of_neg (by simp [hp])], by omega, rfl, rfl⟩
            by_cases hl2 : 2 ≤ (c :: t).length
            · have hz : 0 ≤ 2 := by omega
              refine WS_run 1000 (by simp only [go_sem, Nat.reduceAdd, Nat.reduceLT, Nat.reduceEqDiff, reduceIte, reduceCtorEq, k48_9, k48_8, f0, f5, f6, hlt]; rfl) ?_
              refine WS_drawnQ rfl (by simp only [go_sem, Nat.reduceAdd, Nat.reduceLT, Nat.reduceEqDiff, reduceIte, reduceCtorEq, f0, f5, f6, hlt, hl2, hz, hld, List.drop_zero, Nat.sub_zero, strS]; rfl) ?_
              have hp := two_prefix (g := g) (s := c :: t) hg2
              rw [decide_eq_true hl2, Bool.true_and] at hp
              cases he : eqL ((c :: t).take 2) g with
              | true =>
                rw [he] at hp
                refine WS_run 1000 (by simp only [go_sem, Nat.reduceAdd, Nat.reduceLT, Nat.reduceEqDiff, reduceIte, reduceCtorEq]; rfl) ?_
                refine WS_ret ⟨_, by simp only [go_sem, Nat.reduceAdd, Nat.reduceLT, Nat.reduceEqDiff, reduceIte, reduceCtorEq, k48]; rfl, ?_⟩
                rw [hf, hd, List.find?_cons_of_pos (by simpa using hp)] at hn
                simp only [hg2] at hn
                have := h 4 w (fun hne => (hk hne).symm) hext
                rw [hn] at this
                exact this
              | false =>
                rw [he] at hp
                refine WS_run 1000 (by simp only [go_sem, Nat.reduceAdd, Nat.reduceLT, Nat.reduceEqDiff, reduceIte, reduceCtorEq, f0, f5, f6, hw]; rfl) ?_
                exact next hp _ (by simp only [go_sem, Nat.reduceAdd, Nat.reduceLT, Nat.reduceEqDiff, reduceIte, reduceCtorEq, f0] <;> rfl) (by simp only [go_sem, Nat.reduceAdd, Nat.reduceLT, Nat.reduceEqDiff, reduceIte, reduceCtorEq, f5] <;> rfl) (by simp only [go_sem, Nat.reduceAdd, Nat.reduceLT, Nat.reduceEqDiff, reduceIte, reduceCtorEq] <;> rfl)
            · have hp : g.isPrefixOf (c :: t) = false := by rw [two_prefix hg2, decide_eq_false hl2]; rfl
              refine WS_run 1000 (by simp only [go_sem, Nat.reduceAdd, Nat.reduceLT, Nat.reduceEqDiff, reduceIte, reduceCtorEq, k48_9, k48_8, f0, f5, f6, hlt]; rfl) ?_
              refine WS_drawnQ rfl (by simp only [go_sem, Nat.reduceAdd, Nat.reduceLT, Nat.reduceEqDiff, reduceIte, reduceCtorEq, f0, f5, f6, hlt, hl2]; rfl) ?_
              refine WS_run 1000 (by simp only [go_sem, Nat.reduceAdd, Nat.reduceLT, Nat.reduceEqDiff, reduceIte, reduceCtorEq, f0, f5, f6, hw]; rfl) ?_
              exact next hp _ (by simp only [go_sem, Nat.reduceAdd, Nat.reduceLT, Nat.reduceEqDiff, reduceIte, reduceCtorEq, f0] <;> rfl) (by simp only [go_sem, Nat.reduceAdd, Nat.reduceLT, Nat.reduceEqDiff, reduceIte, reduceCtorEq, f5] <;> rfl) (by simp only [go_sem, Nat.reduceAdd, Nat.reduceLT, Nat.reduceEqDiff, reduceIte, reduceCtorEq] <;> rfl)
          · have : i = 3 := by omega
            subst this
            have hno : twos.find? (fun g => g.isPrefixOf (c :: t)) = none := by rw [hf]; rfl
            rw [hno] at hn
            simp only at hn
            refine WS_runB 1000 (by simp only [go_sem, Nat.reduceAdd, Nat.reduceLT, Nat.reduceEqDiff, reduceIte, reduceCtorEq, k48_9, f0, f6, hlt]; rfl) ?_
            have yes : isOne c = true → K (.tuple [.int .i64 1, .int .i64 4]) w := by
              intro ho
              rw [if_pos ho] at hn
              simp only [List.length_cons, List.length_nil] at hn
              have := h 4 w (fun hne => (hk hne).symm) hext
              rw [hn] at this
              exact this
            have no : isOne c = false → K (.tuple [.int .i64 0, .int .i64 0]) w := by
              intro ho
              rw [ho] at hn
              simp only [Bool.false_eq_true, if_false] at hn
              have := h 0 w (fun hne => absurd hn hne) hext
              rw [hn] at this
              exact this
            unfold isOne at yes no
            by_cases c40 : c = 40
            · refine WS_run 1000 (by simp only [go_sem, Nat.reduceAdd, Nat.reduceLT, Nat.reduceEqDiff, reduceIte, reduceCtorEq, k48_13, k48_12, k48_11, k48_10, f0, c40]; rfl) ?_
              refine WS_ret ⟨_, by simp only [go_sem, Nat.reduceAdd, Nat.reduceLT, Nat.reduceEqDiff, reduceIte, reduceCtorEq, k48]; rfl, ?_⟩
              exact yes (by simp [c40])
            by_cases c41 : c = 41
            · refine WS_run 1000 (by simp only [go_sem, Nat.reduceAdd, Nat.reduceLT, Nat.reduceEqDiff, reduceIte, reduceCtorEq, k48_13, k48_12, k48_11, k48_10, f0, c40, c41]; rfl) ?_
              refine WS_ret ⟨_, by simp only [go_sem, Nat.reduceAdd, Nat.reduceLT, Nat.reduceEqDiff, reduceIte, reduceCtorEq, k48]; rfl, ?_⟩
              exact yes (by simp [c41])
            by_cases c44 : c = 44
            · refine WS_run 1000 (by simp only [go_sem, Nat.reduceAdd, Nat.reduceLT, Nat.reduceEqDiff, reduceIte, reduceCtorEq, k48_13, k48_12, k48_11, k48_10, f0, c40, c41, c44]; rfl) ?_
              refine WS_ret ⟨_, by simp only [go_sem, Nat.reduceAdd, Nat.reduceLT, Nat.reduceEqDiff, reduceIte, reduceCtorEq, k48]; rfl, ?_⟩
              exact yes (by simp [c44])
            by_cases c46 : c = 46
            · refine WS_run 1000 (by simp only [go_sem, Nat.reduceAdd, Nat.reduceLT, Nat.reduceEqDiff, reduceIte, reduceCtorEq, k48_13, k48_12, k48_11, k48_10, f0, c40, c41, c44, c46]; rfl) ?_
              refine WS_ret ⟨_, by simp only [go_sem, Nat.reduceAdd, Nat.reduceLT, Nat.reduceEqDiff, reduceIte, reduceCtorEq, k48]; rfl, ?_⟩
              exact yes (by simp [c46])
            by_cases c33 : c = 33
            · refine WS_run 1000 (by simp only [go_sem, Nat.reduceAdd, Nat.reduceLT, Nat.reduceEqDiff, reduceIte, reduceCtorEq, k48_13, k48_12, k48_11, k48_10, f0, c40, c41, c44, c46, c33]; rfl) ?_
              refine WS_ret ⟨_, by simp only [go_sem, Nat.reduceAdd, Nat.reduceLT, Nat.reduceEqDiff, reduceIte, reduceCtorEq, k48]; rfl, ?_⟩
              exact yes (by simp [c33])
            by_cases c61 : c = 61
            · refine WS_run 1000 (by simp only [go_sem, Nat.reduceAdd, Nat.reduceLT, Nat.reduceEqDiff, reduceIte, reduceCtorEq, k48_13, k48_12, k48_11, k48_10, f0, c40, c41, c44, c46, c33, c61]; rfl) ?_
              refine WS_ret ⟨_, by simp only [go_sem, Nat.reduceAdd, Nat.reduceLT, Nat.reduceEqDiff, reduceIte, reduceCtorEq, k48]; rfl, ?_⟩
              exact yes (by simp [c61])
            by_cases c60 : c = 60
            · refine WS_run 1000 (by simp only [go_sem, Nat.reduceAdd, Nat.reduceLT, Nat.reduceEqDiff, reduceIte, reduceCtorEq, k48_13, k48_12, k48_11, k48_10, f0, c40, c41, c44, c46, c33, c61, c60]; rfl) ?_
              refine WS_ret ⟨_, by simp only [go_sem, Nat.reduceAdd, Nat.reduceLT, Nat.reduceEqDiff, reduceIte, reduceCtorEq, k48]; rfl, ?_⟩
              exact yes (by simp [c60])
            refine WS_run 1000 (by simp only [go_sem, Nat.reduceAdd, Nat.reduceLT, Nat.reduceEqDiff, reduceIte, reduceCtorEq, k48_13, k48_12, k48_11, k48_10, f0, c40, c41, c44, c46, c33, c61, c60]; rfl) ?_
            refine WS_ret ⟨_, by simp only [go_sem, Nat.reduceAdd, Nat.reduceLT, Nat.reduceEqDiff, reduceIte, reduceCtorEq, k48]; rfl, ?_⟩
            exact no (by simp [c40, c41, c44, c46, c33, c61, c60])
        have hne : (lexWord (c :: t)).2 = 0 → ¬ isDigit c = true → c = 45 → ∀ fr : Fr, fr.get 0 = some (.str (c :: t)) → WS tab [.code k48s] fr aw (fun fr' aw' => ∃ vs, resV fr' aw' k48.results = some vs ∧ K (resOne vs) aw') := by
          intro hz _ he fr f0
          refine hsg fr f0 ?_ (fun hn => absurd hz hn)
          rw [hz]; subst he; rfl
        by_cases h45 : c = 45
        · have hl : lexWord (c :: t) = (3, numberLen (c :: t)) := by
            subst h45; rfl
          have e45 : ¬ isDigit c = true := by rw [h3]; simp
          cases t with
          | nil =>
            have hnl : numberLen [c] = 0 := by subst h45; rfl
            refine WS_runB 20 (by simp only [go_sem, Nat.reduceAdd, Nat.reduceLT, Nat.reduceEqDiff, reduceIte, reduceCtorEq, h45, List.length_cons, List.length_nil]; rfl) ?_
            refine hne (by rw [hl]; exact hnl) e45 h45 _ (by simp only [go_sem, Nat.reduceAdd, Nat.reduceLT, Nat.reduceEqDiff, reduceIte, reduceCtorEq, h45] <;> rfl)
          | cons d u =>
            have hlen : 1 < (45 :: d :: u).length := by simp
            have hh : (c :: d :: u).head? = some 45 := by rw [h45]; rfl
            refine WS_run 1000 (by simp only [go_sem, Nat.reduceAdd, Nat.reduceLT, Nat.reduceEqDiff, reduceIte, reduceCtorEq, h45, hlen]; rfl) ?_
            refine WS_call (by simp only [go_sem, Nat.reduceAdd, Nat.reduceLT, Nat.reduceEqDiff, reduceIte, reduceCtorEq]) (by simp only [go_sem, Nat.reduceAdd, Nat.reduceLT, Nat.reduceEqDiff, reduceIte, reduceCtorEq]; rfl) ?_
            refine rdigit_ok C ?_
            cases hd : isDigit d with
            | false =>
              have hnl : numberLen (c :: d :: u) = 0 := by
                subst h45
                have e0 : ((d :: u).takeWhile isDigit) = [] := List.takeWhile_cons_of_neg (by simp [hd])
                simp [numberLen, e0]
              refine WS_runB 7 (by simp only [go_sem, Nat.reduceAdd, Nat.reduceLT, Nat.reduceEqDiff, reduceIte, reduceCtorEq]; rfl) ?_
              refine hne (by rw [hl]; exact hnl) e45 h45 _ (by simp only [go_sem, Nat.reduceAdd, Nat.reduceLT, Nat.reduceEqDiff, reduceIte, reduceCtorEq, h45] <;> rfl)
            | true =>
              have hd1 : ((d :: u).takeWhile isDigit).length = 1 + (u.takeWhile isDigit).length := by rw [List.takeWhile_cons_of_pos hd, List.length_cons, Nat.add_comm]
              have hnl : numberLen (c :: d :: u) = if d = 48 then 0 else 1 + (1 + (u.takeWhile isDigit).length) := by
                unfold numberLen
                rw [hh]
                simp only [if_true, List.drop_succ_cons, List.drop_zero, hd1, List.getElem?_cons_succ, List.getElem?_cons_zero, Option.some.injEq, true_and]
                rw [if_neg (by omega)]
                split <;> rfl
              by_cases h48 : d = 48
              · refine WS_run 1000 (by simp only [go_sem, Nat.reduceAdd, Nat.reduceLT, Nat.reduceEqDiff, reduceIte, reduceCtorEq, k48_4, k48_2, h48, h45]; rfl) ?_
                refine WS_ret ⟨_, by simp only [go_sem, Nat.reduceAdd, Nat.reduceLT, Nat.reduceEqDiff, reduceIte, reduceCtorEq, k48]; rfl, ?_⟩
                rw [if_pos h48] at hnl
                have := h 0 aw (fun hn => absurd (by rw [hl]; exact hnl) hn) (Ext.refl aw)
                rw [hl, hnl] at this
                exact this
              · refine WS_run 1000 (by simp only [go_sem, Nat.reduceAdd, Nat.reduceLT, Nat.reduceEqDiff, reduceIte, reduceCtorEq, k48_4, k48_2, h48, h45]; rfl) ?_
                refine rl3 (c := 45) (t := d :: u) C (by simpa using hs) (k0 := 2) (by simp) (by simp only [go_sem, Nat.reduceAdd, Nat.reduceLT, Nat.reduceEqDiff, reduceIte, reduceCtorEq] <;> rfl) (by simp only [go_sem, Nat.reduceAdd, Nat.reduceLT, Nat.reduceEqDiff, reduceIte, reduceCtorEq] <;> rfl) ?_
                intro f f0 f4
                refine WS_run 1000 (by simp only [go_sem, Nat.reduceAdd, Nat.reduceLT, Nat.reduceEqDiff, reduceIte, reduceCtorEq, f4]; rfl) ?_
                refine WS_ret ⟨_, by simp only [go_sem, Nat.reduceAdd, Nat.reduceLT, Nat.reduceEqDiff, reduceIte, reduceCtorEq, k48]; rfl, ?_⟩
                rw [if_neg h48] at hnl
                have := h 3 aw (fun _ => by rw [hl]) (Ext.refl aw)
                rw [hl, hnl] at this
                have e : 2 + (List.takeWhile isDigit (List.drop 2 (45 :: d :: u))).length = 1 + (1 + (u.takeWhile isDigit).length) := by simp; omega
                rw [e]
                exact this
        · have hd : (isDigit c || decide (c = 45)) = false := by simp [h3, h45]
          have hl : lexWord (c :: t) = (match signs.find? (fun g => g.isPrefixOf (c :: t)) with
              | some g => (4, g.length)
              | none => (0, 0)) := by
            simp only [lexWord, h1, h2, hd, Bool.false_eq_true, if_false]; rfl
          refine WS_runB 20 (by simp only [go_sem, Nat.reduceAdd, Nat.reduceLT, Nat.reduceEqDiff, reduceIte, reduceCtorEq, h45]; rfl) ?_
          refine hsg _ (by simp only [go_sem, Nat.reduceAdd, Nat.reduceLT, Nat.reduceEqDiff, reduceIte, reduceCtorEq] <;> rfl) ?_ ?_
          · rw [hl]; cases signs.find? (fun g => g.isPrefixOf (c :: t)) <;> rfl
          · rw [hl]; cases signs.find? (fun g => g.isPrefixOf (c :: t)) with
            | none => intro hn; exact absurd rfl hn
            | some g => intro _; rfl
end Go.Proofs.Ytjidefnbancmfaa
