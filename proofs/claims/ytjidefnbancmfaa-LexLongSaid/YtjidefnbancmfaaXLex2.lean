/- Words with blanks between are the same words. -/
import Derived.Test.YtjidefnbancmfaaXLex
set_option linter.unusedVariables false
set_option linter.unusedSimpArgs false
namespace Delphi
theorem takeWhile_upto {p : Nat → Bool} {l r : List Nat} {x : Nat} (hx : p x = false) : (l.takeWhile p ++ x :: r).takeWhile p = l.takeWhile p := by
  have h : ∀ y ∈ l.takeWhile p, p y = true := fun y hy => by
    have := List.all_takeWhile (p := p) (l := l)
    exact (List.all_eq_true.1 this) y hy
  generalize l.takeWhile p = u at h
  induction u with
  | nil => simp [hx]
  | cons y u ih =>
    rw [List.cons_append, List.takeWhile_cons_of_pos (h y (by simp)), ih (fun z hz => h z (by simp [hz]))]
theorem take_takeWhile {p : Nat → Bool} (l : List Nat) : l.take (l.takeWhile p).length = l.takeWhile p := by
  have := (List.takeWhile_prefix (p := p) (l := l))
  exact (List.prefix_iff_eq_take.1 this).symm
/-- what stands in front of a number's blank is that number. -/
theorem numberLen_apart (u r : List Nat) (h : numberLen u ≠ 0) : numberLen (u.take (numberLen u) ++ 32 :: r) = numberLen u := by
  have h32 : isDigit 32 = false := by decide
  cases u with
  | nil => exact absurd rfl h
  | cons c t =>
    by_cases hc : c = 45
    · subst hc
      have e : numberLen (45 :: t) = if (t.takeWhile isDigit).length = 0 then 0 else if t[0]? = some 48 then 0 else 1 + (t.takeWhile isDigit).length := by
        simp only [numberLen, List.head?_cons, if_true, List.drop_succ_cons, List.drop_zero, List.getElem?_cons_succ, true_and]
        split
        · rfl
        · split <;> rfl
      have hd : (t.takeWhile isDigit).length ≠ 0 := fun hd => by rw [e, if_pos hd] at h; exact h rfl
      have h0 : ¬ t[0]? = some 48 := fun h0 => by rw [e, if_neg hd, if_pos h0] at h; exact h rfl
      have hn : numberLen (45 :: t) = 1 + (t.takeWhile isDigit).length := by rw [e, if_neg hd, if_neg h0]
      rw [hn, Nat.add_comm, List.take_succ_cons, take_takeWhile]
      have e2 : numberLen (45 :: t.takeWhile isDigit ++ 32 :: r) = if ((t.takeWhile isDigit ++ 32 :: r).takeWhile isDigit).length = 0 then 0 else if (t.takeWhile isDigit ++ 32 :: r)[0]? = some 48 then 0 else 1 + ((t.takeWhile isDigit ++ 32 :: r).takeWhile isDigit).length := by
        simp only [numberLen, List.cons_append, List.head?_cons, if_true, List.drop_succ_cons, List.drop_zero, List.getElem?_cons_succ, true_and]
        split
        · rfl
        · split <;> rfl
      rw [e2, takeWhile_upto h32, if_neg hd, if_neg, Nat.add_comm]
      have : (t.takeWhile isDigit ++ 32 :: r)[0]? = t[0]? := by
        cases t with
        | nil => simp at hd
        | cons d u =>
          have hdd : isDigit d = true := by
            cases hq : isDigit d with
            | true => rfl
            | false => rw [List.takeWhile_cons_of_neg (by simp [hq])] at hd; simp at hd
          rw [List.takeWhile_cons_of_pos hdd]; rfl
      rw [this]; exact h0
    · have e : ∀ t : List Nat, numberLen (c :: t) = if ((c :: t).takeWhile isDigit).length = 0 then 0 else if c = 48 then 1 else ((c :: t).takeWhile isDigit).length := by
        intro t
        simp only [numberLen, List.head?_cons, Option.some.injEq, if_neg hc, List.drop_zero, Nat.zero_add, List.getElem?_cons_zero]
        split
        · rfl
        · rw [if_neg (by omega)]
      have hd : ((c :: t).takeWhile isDigit).length ≠ 0 := fun hd => by rw [e, if_pos hd] at h; exact h rfl
      have hcd : isDigit c = true := by
        cases hq : isDigit c with
        | true => rfl
        | false => rw [List.takeWhile_cons_of_neg (by simp [hq])] at hd; simp at hd
      by_cases h48 : c = 48
      · have hn : numberLen (c :: t) = 1 := by rw [e, if_neg hd, if_pos h48]
        rw [hn]
        show numberLen (c :: 32 :: r) = 1
        rw [e, if_neg (by rw [List.takeWhile_cons_of_pos hcd]; simp), if_pos h48]
      · have hn : numberLen (c :: t) = ((c :: t).takeWhile isDigit).length := by rw [e, if_neg hd, if_neg h48]
        rw [hn, take_takeWhile]
        have hcc : (c :: t).takeWhile isDigit ++ 32 :: r = c :: (t.takeWhile isDigit ++ 32 :: r) := by rw [List.takeWhile_cons_of_pos hcd]; rfl
        rw [hcc, e, ← hcc, takeWhile_upto h32, if_neg hd, if_neg h48]
theorem lexWord_apart (u r : List Nat) (h : (lexWord u).2 ≠ 0) : lexWord (u.take (lexWord u).2 ++ 32 :: r) = lexWord u := by
  cases u with
  | nil => exact absurd rfl h
  | cons c t =>
    by_cases h1 : isSmall c = true
    · have hn : isNamed c = true := by simp [isNamed, h1]
      have e : ∀ t, lexWord (c :: t) = (1, ((c :: t).takeWhile isNamed).length) := fun t => by simp only [lexWord, h1, if_true]
      rw [e, take_takeWhile]
      have hcc : (c :: t).takeWhile isNamed ++ 32 :: r = c :: (t.takeWhile isNamed ++ 32 :: r) := by rw [List.takeWhile_cons_of_pos hn]; rfl
      rw [hcc, e, ← hcc, takeWhile_upto (by decide)]
    · by_cases h2 : isGreat c = true
      · have hn : isVarC c = true := by simp [isVarC, h2]
        have e : ∀ t, lexWord (c :: t) = (2, ((c :: t).takeWhile isVarC).length) := fun t => by simp only [lexWord, h1, h2, if_true, Bool.false_eq_true, if_false]
        rw [e, take_takeWhile]
        have hcc : (c :: t).takeWhile isVarC ++ 32 :: r = c :: (t.takeWhile isVarC ++ 32 :: r) := by rw [List.takeWhile_cons_of_pos hn]; rfl
        rw [hcc, e, ← hcc, takeWhile_upto (by decide)]
      · by_cases h3 : (isDigit c || decide (c = 45)) = true
        · have e : ∀ t, lexWord (c :: t) = (3, numberLen (c :: t)) := fun t => by simp only [lexWord, h1, h2, h3, if_true, Bool.false_eq_true, if_false]
          rw [e] at h ⊢
          simp only at h ⊢
          have hpos : numberLen (c :: t) = (numberLen (c :: t) - 1) + 1 := by omega
          have hcc : (c :: t).take (numberLen (c :: t)) ++ 32 :: r = c :: (t.take (numberLen (c :: t) - 1) ++ 32 :: r) := by rw [hpos, List.take_succ_cons]; rfl
          rw [hcc, e, ← hcc, numberLen_apart _ _ h]
        · have e : ∀ t, lexWord (c :: t) = (match signs.find? (fun g : List Nat => g.isPrefixOf (c :: t)) with | some g => (4, g.length) | none => (0, 0)) := fun t => by
            simp only [lexWord, h1, h2, h3, Bool.false_eq_true, if_false]; rfl
          rw [e] at h ⊢
          cases hf : signs.find? (fun g : List Nat => g.isPrefixOf (c :: t)) with
          | none => rw [hf] at h; exact absurd rfl h
          | some g =>
            simp only
            have hm := List.mem_of_find?_eq_some hf
            have hp := List.isPrefixOf_iff_prefix.1 (List.find?_some (p := fun g : List Nat => g.isPrefixOf (c :: t)) hf)
            rw [← (List.prefix_iff_eq_take.1 hp)]
            simp only [signs, List.mem_cons, List.not_mem_nil, or_false] at hm
            rcases hm with rfl | rfl | rfl | rfl | rfl | rfl | rfl | rfl | rfl | rfl <;> rfl
theorem blk_word (u : List Nat) (h : (lexWord u).2 ≠ 0) : blk false u = 0 := by
  cases u with
  | nil => rfl
  | cons c t =>
    have hb : ∀ n, n ∈ [32, 9, 10, 13, 37] → c ≠ n := by
      intro n hn hc
      subst hc
      simp only [List.mem_cons, List.not_mem_nil, or_false] at hn
      rcases hn with rfl | rfl | rfl | rfl | rfl <;> exact absurd rfl h
    simp [blk, isBlank, hb 32 (by simp), hb 9 (by simp), hb 10 (by simp), hb 13 (by simp), hb 37 (by simp)]
/-- words with a blank behind each. -/
def spaced : List Wd → List Nat
  | [] => []
  | w :: l => w.text ++ 32 :: spaced l
def replaced : Nat → List Wd → List Wd
  | _, [] => []
  | n, w :: l => ⟨w.kind, w.text, n⟩ :: replaced (n + w.text.length + 1) l
/-- what a scan gives is words. -/
def IsWd (w : Wd) : Prop := ∃ u, (lexWord u).2 ≠ 0 ∧ w.kind = (lexWord u).1 ∧ w.text = u.take (lexWord u).2 ∧ ¬ ((lexWord u).1 ≠ 4 ∧ 16 < (lexWord u).2)
theorem scan_words : ∀ (n at' : Nat) (s : List Nat), s.length ≤ n → ∀ w ∈ (scan at' s).1, IsWd w
  | n, at', s, hn => by
    rw [scan_eq]
    split
    · intro w hw; simp at hw
    · rename_i c t hd
      split
      · intro w hw; simp at hw
      · rename_i hbad
        have hb := blk_le false s
        have hlen : (c :: t).length = s.length - blk false s := by rw [← hd]; simp
        have hm : (lexWord (c :: t)).2 ≠ 0 := fun he => hbad (.inl he)
        have hl2 : ((c :: t).drop (lexWord (c :: t)).2).length < s.length := by simp only [List.length_drop, List.length_cons] at *; omega
        intro w hw
        rcases List.mem_cons.1 hw with rfl | hw
        · exact ⟨c :: t, hm, rfl, rfl, fun h => hbad (.inr h)⟩
        · match n, hn with
          | 0, hn => simp only [List.length_cons] at hlen; omega
          | n + 1, hn => exact scan_words n _ _ (by omega) w hw
theorem scan_spaced : ∀ (l : List Wd) (n : Nat), (∀ w ∈ l, IsWd w) → scan n (spaced l) = (replaced n l, true)
  | [], n, _ => by rw [scan_eq]; rfl
  | w :: l, n, h => by
    obtain ⟨u, h1, h2, h3, h4⟩ := h w (by simp)
    have hle := lexWord_le u
    have hlw := lexWord_apart u (spaced l) h1
    have htl : w.text.length = (lexWord u).2 := by rw [h3, List.length_take]; omega
    have hs : spaced (w :: l) = u.take (lexWord u).2 ++ 32 :: spaced l := by simp only [spaced, h3]
    have hb : blk false (spaced (w :: l)) = 0 := blk_word _ (by rw [hs, hlw]; exact h1)
    obtain ⟨c, t, hct⟩ : ∃ c t, spaced (w :: l) = c :: t := by
      cases hq : spaced (w :: l) with
      | nil => rw [hs] at hq; simp at hq
      | cons c t => exact ⟨c, t, rfl⟩
    rw [scan_eq, hb, List.drop_zero, hct]
    simp only
    rw [← hct, hs, hlw, if_neg (by intro hh; rcases hh with hh | hh; exact h1 hh; exact h4 hh)]
    have ht : (u.take (lexWord u).2).length = (lexWord u).2 := by rw [List.length_take]; omega
    rw [List.take_append_of_le_length (by omega), List.take_of_length_le (by omega), List.drop_append_of_le_length (by omega), List.drop_eq_nil_of_le (by omega), List.nil_append]
    have hsk : scan (n + 0 + (lexWord u).2) (32 :: spaced l) = scan (n + 0 + (lexWord u).2 + 1) (spaced l) := by
      have := scan_skip (n + 0 + (lexWord u).2) (32 :: spaced l) 1 (by simp [blk, isBlank]; omega)
      simpa using this
    rw [hsk, scan_spaced l _ (fun w hw => h w (by simp [hw]))]
    simp only [replaced, h2, h3, ht, Nat.add_zero]
def textLen : List Wd → Nat
  | [] => 0
  | w :: l => w.text.length + textLen l
theorem scan_textLen : ∀ (n at' : Nat) (s : List Nat), s.length ≤ n → textLen (scan at' s).1 ≤ s.length
  | n, at', s, hn => by
    rw [scan_eq]
    split
    · simp [textLen]
    · rename_i c t hd
      split
      · simp [textLen]
      · rename_i hbad
        have hb := blk_le false s
        have hlen : (c :: t).length = s.length - blk false s := by rw [← hd]; simp
        have hm : (lexWord (c :: t)).2 ≠ 0 := fun he => hbad (.inl he)
        have hle := lexWord_le (c :: t)
        have hl2 : ((c :: t).drop (lexWord (c :: t)).2).length = (c :: t).length - (lexWord (c :: t)).2 := by simp
        match n, hn with
        | 0, hn => simp only [List.length_cons] at hlen; omega
        | n + 1, hn =>
          have := scan_textLen n (at' + blk false s + (lexWord (c :: t)).2) ((c :: t).drop (lexWord (c :: t)).2) (by omega)
          simp only [textLen, List.length_take]
          omega
theorem spaced_len : ∀ l : List Wd, (spaced l).length = textLen l + l.length
  | [] => rfl
  | w :: l => by simp only [spaced, textLen, List.length_append, List.length_cons, spaced_len l]; omega
theorem scan_bytes : ∀ (n at' : Nat) (s : List Nat), s.length ≤ n → ∀ w ∈ (scan at' s).1, ∀ x ∈ w.text, x ∈ s
  | n, at', s, hn => by
    rw [scan_eq]
    split
    · intro w hw; simp at hw
    · rename_i c t hd
      have hsub : ∀ x, x ∈ c :: t → x ∈ s := fun x hx => List.mem_of_mem_drop (hd ▸ hx)
      split
      · intro w hw; simp at hw
      · rename_i hbad
        have hb := blk_le false s
        have hlen : (c :: t).length = s.length - blk false s := by rw [← hd]; simp
        have hm : (lexWord (c :: t)).2 ≠ 0 := fun he => hbad (.inl he)
        have hl2 : ((c :: t).drop (lexWord (c :: t)).2).length < s.length := by simp only [List.length_drop, List.length_cons] at *; omega
        intro w hw x hx
        rcases List.mem_cons.1 hw with rfl | hw
        · exact hsub x (List.mem_of_mem_take hx)
        · match n, hn with
          | 0, hn => simp only [List.length_cons] at hlen; omega
          | n + 1, hn => exact hsub x (List.mem_of_mem_drop (scan_bytes n _ _ (by omega) w hw x hx))
theorem spaced_bytes : ∀ (l : List Wd), (∀ w ∈ l, ∀ x ∈ w.text, x < 256) → ∀ x ∈ spaced l, x < 256
  | [], _, x, hx => by simp [spaced] at hx
  | w :: l, h, x, hx => by
    simp only [spaced, List.mem_append, List.mem_cons] at hx
    rcases hx with hx | rfl | hx
    · exact h w (by simp) x hx
    · decide
    · exact spaced_bytes l (fun w hw => h w (by simp [hw])) x hx
theorem spaced_snoc : ∀ (l : List Wd) (w : Wd), spaced (l ++ [w]) = spaced l ++ (w.text ++ [32])
  | [], w => by simp [spaced]
  | x :: l, w => by simp [spaced, spaced_snoc l w]
theorem replaced_len : ∀ (n : Nat) (l : List Wd), (replaced n l).length = l.length
  | _, [] => rfl
  | n, w :: l => by simp [replaced, replaced_len _ l]
end Delphi
