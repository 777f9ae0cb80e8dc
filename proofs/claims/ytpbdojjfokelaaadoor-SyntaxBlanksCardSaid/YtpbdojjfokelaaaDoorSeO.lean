/- A part of the proof: XLex2, XTok, XPrs, XPrs2, XPrs3, XPrs4, XFmt, XMany, PPar15, PPar16, XBlk, PPar17, SArg. -/
import Derived.Test.YtpbdojjfokelaaaDoorSeH
import Derived.Test.YtpbdojjfokelaaaDoorSeG
import Derived.Test.YtpbdojjfokelaaaDoorSeN
import Derived.Test.YtpbdojjfokelaaaDoorSeJ
import Derived.HandedShaped
import Derived.Stop.Joined
set_option linter.unusedVariables false
set_option linter.unusedSimpArgs false
namespace Delphi
theorem takeWhile_upto {p : Nat → Bool} {l r : List Nat} {x : Nat} (hx : p x = false) : (l.takeWhile p ++ x :: r).takeWhile p = l.takeWhile p := by
  have h : ∀ y ∈ l.takeWhile p, p y = true := fun y hy => by
    have := List.all_takeWhile (p := p) (l := l)
    exact (List.all_eq_true.1 this) y hy
  generalize l.takeWhile p = u at h
  induction u with
  | nil => simp [hx]
  | cons y u ih =>
    rw [List.cons_append, List.takeWhile_cons_of_pos (h y (by simp)), ih (fun z hz => h z (by simp [hz]))]
theorem take_takeWhile {p : Nat → Bool} (l : List Nat) : l.take (l.takeWhile p).length = l.takeWhile p := by
  have := (List.takeWhile_prefix (p := p) (l := l))
  exact (List.prefix_iff_eq_take.1 this).symm
theorem numberLen_apart (u r : List Nat) (h : numberLen u ≠ 0) : numberLen (u.take (numberLen u) ++ 32 :: r) = numberLen u := by
  have h32 : isDigit 32 = false := by decide
  cases u with
  | nil => exact absurd rfl h
  | cons c t =>
    by_cases hc : c = 45
    · subst hc
      have e : numberLen (45 :: t) = if (t.takeWhile isDigit).length = 0 then 0 else if t[0]? = some 48 then 0 else 1 + (t.takeWhile isDigit).length := by
        simp only [numberLen, List.head?_cons, if_true, List.drop_succ_cons, List.drop_zero, List.getElem?_cons_succ, true_and]
        split
        · rfl
        · split <;> rfl
      have hd : (t.takeWhile isDigit).length ≠ 0 := fun hd => by rw [e, if_pos hd] at h; exact h rfl
      have h0 : ¬ t[0]? = some 48 := fun h0 => by rw [e, if_neg hd, if_pos h0] at h; exact h rfl
      have hn : numberLen (45 :: t) = 1 + (t.takeWhile isDigit).length := by rw [e, if_neg hd, if_neg h0]
      rw [hn, Nat.add_comm, List.take_succ_cons, take_takeWhile]
      have e2 : numberLen (45 :: t.takeWhile isDigit ++ 32 :: r) = if ((t.takeWhile isDigit ++ 32 :: r).takeWhile isDigit).length = 0 then 0 else if (t.takeWhile isDigit ++ 32 :: r)[0]? = some 48 then 0 else 1 + ((t.takeWhile isDigit ++ 32 :: r).takeWhile isDigit).length := by
        simp only [numberLen, List.cons_append, List.head?_cons, if_true, List.drop_succ_cons, List.drop_zero, List.getElem?_cons_succ, true_and]
        split
        · rfl
        · split <;> rfl
      rw [e2, takeWhile_upto h32, if_neg hd, if_neg, Nat.add_comm]
      have : (t.takeWhile isDigit ++ 32 :: r)[0]? = t[0]? := by
        cases t with
        | nil => simp at hd
        | cons d u =>
          have hdd : isDigit d = true := by
            cases hq : isDigit d with
            | true => rfl
            | false => rw [List.takeWhile_cons_of_neg (by simp [hq])] at hd; simp at hd
          rw [List.takeWhile_cons_of_pos hdd]; rfl
      rw [this]; exact h0
    · have e : ∀ t : List Nat, numberLen (c :: t) = if ((c :: t).takeWhile isDigit).length = 0 then 0 else if c = 48 then 1 else ((c :: t).takeWhile isDigit).length := by
        intro t
        simp only [numberLen, List.head?_cons, Option.some.injEq, if_neg hc, List.drop_zero, Nat.zero_add, List.getElem?_cons_zero]
        split
        · rfl
        · rw [if_neg (by omega)]
      have hd : ((c :: t).takeWhile isDigit).length ≠ 0 := fun hd => by rw [e, if_pos hd] at h; exact h rfl
      have hcd : isDigit c = true := by
        cases hq : isDigit c with
        | true => rfl
        | false => rw [List.takeWhile_cons_of_neg (by simp [hq])] at hd; simp at hd
      by_cases h48 : c = 48
      · have hn : numberLen (c :: t) = 1 := by rw [e, if_neg hd, if_pos h48]
        rw [hn]
        show numberLen (c :: 32 :: r) = 1
        rw [e, if_neg (by rw [List.takeWhile_cons_of_pos hcd]; simp), if_pos h48]
      · have hn : numberLen (c :: t) = ((c :: t).takeWhile isDigit).length := by rw [e, if_neg hd, if_neg h48]
        rw [hn, take_takeWhile]
        have hcc : (c :: t).takeWhile isDigit ++ 32 :: r = c :: (t.takeWhile isDigit ++ 32 :: r) := by rw [List.takeWhile_cons_of_pos hcd]; rfl
        rw [hcc, e, ← hcc, takeWhile_upto h32, if_neg hd, if_neg h48]
theorem lexWord_apart (u r : List Nat) (h : (lexWord u).2 ≠ 0) : lexWord (u.take (lexWord u).2 ++ 32 :: r) = lexWord u := by
  cases u with
  | nil => exact absurd rfl h
  | cons c t =>
    by_cases h1 : isSmall c = true
    · have hn : isNamed c = true := by simp [isNamed, h1]
      have e : ∀ t, lexWord (c :: t) = (1, ((c :: t).takeWhile isNamed).length) := fun t => by simp only [lexWord, h1, if_true]
      rw [e, take_takeWhile]
      have hcc : (c :: t).takeWhile isNamed ++ 32 :: r = c :: (t.takeWhile isNamed ++ 32 :: r) := by rw [List.takeWhile_cons_of_pos hn]; rfl
      rw [hcc, e, ← hcc, takeWhile_upto (by decide)]
    · by_cases h2 : isGreat c = true
      · have hn : isVarC c = true := by simp [isVarC, h2]
        have e : ∀ t, lexWord (c :: t) = (2, ((c :: t).takeWhile isVarC).length) := fun t => by simp only [lexWord, h1, h2, if_true, Bool.false_eq_true, if_false]
        rw [e, take_takeWhile]
        have hcc : (c :: t).takeWhile isVarC ++ 32 :: r = c :: (t.takeWhile isVarC ++ 32 :: r) := by rw [List.takeWhile_cons_of_pos hn]; rfl
        rw [hcc, e, ← hcc, takeWhile_upto (by decide)]
      · by_cases h3 : (isDigit c || decide (c = 45)) = true
        · have e : ∀ t, lexWord (c :: t) = (3, numberLen (c :: t)) := fun t => by simp only [lexWord, h1, h2, h3, if_true, Bool.false_eq_true, if_false]
          rw [e] at h ⊢
          simp only at h ⊢
          have hpos : numberLen (c :: t) = (numberLen (c :: t) - 1) + 1 := by omega
          have hcc : (c :: t).take (numberLen (c :: t)) ++ 32 :: r = c :: (t.take (numberLen (c :: t) - 1) ++ 32 :: r) := by rw [hpos, List.take_succ_cons]; rfl
          rw [hcc, e, ← hcc, numberLen_apart _ _ h]
        · have e : ∀ t, lexWord (c :: t) = (match signs.find? (fun g : List Nat => g.isPrefixOf (c :: t)) with | some g => (4, g.length) | none => (0, 0)) := fun t => by
            simp only [lexWord, h1, h2, h3, Bool.false_eq_true, if_false]; rfl
          rw [e] at h ⊢
          cases hf : signs.find? (fun g : List Nat => g.isPrefixOf (c :: t)) with
          | none => rw [hf] at h; exact absurd rfl h
          | some g =>
            simp only
            have hm := List.mem_of_find?_eq_some hf
            have hp := List.isPrefixOf_iff_prefix.1 (List.find?_some (p := fun g : List Nat => g.isPrefixOf (c :: t)) hf)
            rw [← (List.prefix_iff_eq_take.1 hp)]
            simp only [signs, List.mem_cons, List.not_mem_nil, or_false] at hm
            rcases hm with rfl | rfl | rfl | rfl | rfl | rfl | rfl | rfl | rfl | rfl <;> rfl
theorem blk_word (u : List Nat) (h : (lexWord u).2 ≠ 0) : blk false u = 0 := by
  cases u with
  | nil => rfl
  | cons c t =>
    have hb : ∀ n, n ∈ [32, 9, 10, 13, 37] → c ≠ n := by
      intro n hn hc
      subst hc
      simp only [List.mem_cons, List.not_mem_nil, or_false] at hn
      rcases hn with rfl | rfl | rfl | rfl | rfl <;> exact absurd rfl h
    simp [blk, isBlank, hb 32 (by simp), hb 9 (by simp), hb 10 (by simp), hb 13 (by simp), hb 37 (by simp)]
def IsWd (w : Wd) : Prop := ∃ u, (lexWord u).2 ≠ 0 ∧ w.kind = (lexWord u).1 ∧ w.text = u.take (lexWord u).2 ∧ ¬ ((lexWord u).1 ≠ 4 ∧ 16 < (lexWord u).2)
theorem scan_words : ∀ (n at' : Nat) (s : List Nat), s.length ≤ n → ∀ w ∈ (scan at' s).1, IsWd w
  | n, at', s, hn => by
    rw [scan_eq]
    split
    · intro w hw; simp at hw
    · rename_i c t hd
      split
      · intro w hw; simp at hw
      · rename_i hbad
        have hb := blk_le false s
        have hlen : (c :: t).length = s.length - blk false s := by rw [← hd]; simp
        have hm : (lexWord (c :: t)).2 ≠ 0 := fun he => hbad (.inl he)
        have hl2 : ((c :: t).drop (lexWord (c :: t)).2).length < s.length := by simp only [List.length_drop, List.length_cons] at *; omega
        intro w hw
        rcases List.mem_cons.1 hw with rfl | hw
        · exact ⟨c :: t, hm, rfl, rfl, fun h => hbad (.inr h)⟩
        · match n, hn with
          | 0, hn => simp only [List.length_cons] at hlen; omega
          | n + 1, hn => exact scan_words n _ _ (by omega) w hw
def textLen : List Wd → Nat
  | [] => 0
  | w :: l => w.text.length + textLen l
theorem scan_textLen : ∀ (n at' : Nat) (s : List Nat), s.length ≤ n → textLen (scan at' s).1 ≤ s.length
  | n, at', s, hn => by
    rw [scan_eq]
    split
    · simp [textLen]
    · rename_i c t hd
      split
      · simp [textLen]
      · rename_i hbad
        have hb := blk_le false s
        have hlen : (c :: t).length = s.length - blk false s := by rw [← hd]; simp
        have hm : (lexWord (c :: t)).2 ≠ 0 := fun he => hbad (.inl he)
        have hle := lexWord_le (c :: t)
        have hl2 : ((c :: t).drop (lexWord (c :: t)).2).length = (c :: t).length - (lexWord (c :: t)).2 := by simp
        match n, hn with
        | 0, hn => simp only [List.length_cons] at hlen; omega
        | n + 1, hn =>
          have := scan_textLen n (at' + blk false s + (lexWord (c :: t)).2) ((c :: t).drop (lexWord (c :: t)).2) (by omega)
          simp only [textLen, List.length_take]
          omega
end Delphi
set_option linter.unusedVariables false
set_option linter.unusedSimpArgs false
namespace Delphi
def Gap (g : List Nat) : Prop := ∀ (r : List Nat), blk false (g ++ r) = g.length + blk false r
theorem Gap.scan {g : List Nat} (h : Gap g) (n : Nat) (r : List Nat) : scan n (g ++ r) = scan (n + g.length) r := by
  have := scan_skip n (g ++ r) g.length (by rw [List.drop_left]; exact h r)
  rw [List.drop_left] at this
  exact this
theorem gap_one {c : Nat} (h : isBlank c = true) : Gap [c] := fun r => by simp [blk, h]; omega
theorem Gap.app {g g' : List Nat} (h : Gap g) (h' : Gap g') : Gap (g ++ g') := fun r => by rw [List.append_assoc, h, h', List.length_append]; omega
structure Tok where
  gap : List Nat
  kind : Nat
  text : List Nat
def sW (w : Wd) : Wd := ⟨w.kind, w.text, 0⟩
def laidT : List Tok → List Nat
  | [] => []
  | t :: l => t.gap ++ (t.text ++ laidT l)
def LxAll : List Tok → List Nat → Prop
  | [], _ => True
  | t :: l, r => Gap t.gap ∧ t.text ≠ [] ∧ (t.kind ≠ 4 → t.text.length ≤ 16) ∧ lexWord (t.text ++ (laidT l ++ r)) = (t.kind, t.text.length) ∧ LxAll l r
theorem laidT_app : ∀ (l m : List Tok), laidT (l ++ m) = laidT l ++ laidT m
  | [], m => rfl
  | t :: l, m => by simp only [List.cons_append, laidT, laidT_app l m, List.append_assoc]
theorem LxAll.app : ∀ {l m : List Tok} {r : List Nat}, LxAll l (laidT m ++ r) → LxAll m r → LxAll (l ++ m) r
  | [], m, r, _, h => h
  | t :: l, m, r, h, h' => by
    obtain ⟨h1, h2, h3, h4, h5⟩ := h
    refine ⟨h1, h2, h3, ?_, LxAll.app h5 h'⟩
    have e : laidT (l ++ m) ++ r = laidT l ++ (laidT m ++ r) := by rw [laidT_app, List.append_assoc]
    show lexWord (t.text ++ (laidT (l ++ m) ++ r)) = _
    rw [e]; exact h4
theorem scan_word {k n : Nat} {s r : List Nat} (h0 : s ≠ []) (h16 : k ≠ 4 → s.length ≤ 16) (hl : lexWord (s ++ r) = (k, s.length)) : scan n (s ++ r) = (⟨k, s, n⟩ :: (scan (n + s.length) r).1, (scan (n + s.length) r).2) := by
  have hpos : 0 < s.length := List.length_pos_iff.2 h0
  have hb : blk false (s ++ r) = 0 := blk_word _ (by rw [hl]; show s.length ≠ 0; omega)
  obtain ⟨c, t, hct⟩ : ∃ c t, s ++ r = c :: t := by
    cases hq : s ++ r with
    | nil => simp at hq; exact absurd hq.1 h0
    | cons c t => exact ⟨c, t, rfl⟩
  rw [scan_eq, hb, List.drop_zero, hct]
  simp only
  rw [← hct, hl, if_neg]
  · simp only [Nat.add_zero, List.take_left, List.drop_left]
  · rintro (hh | hh)
    · exact absurd hh (by show s.length ≠ 0; omega)
    · exact absurd hh.2 (by have := h16 hh.1; show ¬ 16 < s.length; omega)
def nameT (s : List Nat) : Prop := ∃ c t, s = c :: t ∧ isSmall c = true ∧ (∀ x ∈ s, isNamed x = true) ∧ s.length ≤ 16
def varT (s : List Nat) : Prop := ∃ c t, s = c :: t ∧ isGreat c = true ∧ (∀ x ∈ s, isVarC x = true) ∧ s.length ≤ 16
def decT (s : List Nat) : Prop := s.length ≤ 16 ∧ ((s = [48]) ∨ ∃ m c t, s = m ++ c :: t ∧ (m = [] ∨ m = [45]) ∧ isDigit c = true ∧ c ≠ 48 ∧ ∀ x ∈ t, isDigit x = true)
end Delphi
set_option linter.unusedVariables false
set_option linter.unusedSimpArgs false
namespace Delphi
theorem sW_at (ws : List Wd) (k : Nat) : (ws.map sW)[k]? = (ws[k]?).map sW := List.getElem?_map ..
theorem rSign_sW (ws : List Wd) (k : Nat) (s : List Nat) : rSign (ws.map sW) k s = rSign ws k s := by
  unfold rSign; rw [sW_at]; cases ws[k]? <;> rfl
theorem rNext_sW (ws : List Wd) (k e : Nat) : rNext (ws.map sW) k e = (rNext ws k e).map sW := by
  unfold rNext; split
  · exact sW_at ws k
  · rfl
theorem rTerm_sW (ws : List Wd) (k e : Nat) : rTerm (ws.map sW) k e = rTerm ws k e := by
  unfold rTerm; rw [rNext_sW]; cases rNext ws k e <;> rfl
theorem rCmpAt_sW (ws : List Wd) (k : Nat) : rCmpAt (ws.map sW) k = rCmpAt ws k := by
  unfold rCmpAt; rw [sW_at]; cases ws[k]? <;> rfl
theorem rKind_sW (ws : List Wd) (k : Nat) : rKind (ws.map sW) k = rKind ws k := by
  unfold rKind; rw [sW_at]; cases ws[k]? <;> rfl
theorem rEat_sW (ws : List Wd) (s : List Nat) (k e : Nat) : rEat (ws.map sW) s k e = rEat ws s k e := by
  unfold rEat; rw [rSign_sW]
theorem rArgs_sW (ws : List Wd) : ∀ (n : Nat) (args : List Tm) (k e : Nat), rArgs (ws.map sW) n args k e = rArgs ws n args k e
  | 0, _, _, _ => rfl
  | n + 1, args, k, e => by simp only [rArgs, rTerm_sW, rSign_sW, rArgs_sW ws n]
theorem rAtom_sW (ws : List Wd) (k e : Nat) : rAtom (ws.map sW) k e = rAtom ws k e := by
  unfold rAtom
  rw [rNext_sW, rSign_sW, rArgs_sW, List.length_map]
  simp only [rEat_sW]
  cases rNext ws k e <;> rfl
theorem rLit_sW (ws : List Wd) (k e : Nat) : rLit (ws.map sW) k e = rLit ws k e := by
  simp only [rLit, rSign_sW, rAtom_sW, rKind_sW, rCmpAt_sW, rTerm_sW]
theorem rBody_sW (ws : List Wd) : ∀ (n : Nat) (l : List Lt) (k e : Nat), rBody (ws.map sW) n l k e = rBody ws n l k e
  | 0, _, _, _ => rfl
  | n + 1, l, k, e => by simp only [rBody, rLit_sW, rSign_sW, rBody_sW ws n]
theorem rClause_sW (ws : List Wd) (k e : Nat) : rClause (ws.map sW) k e = rClause ws k e := by
  simp only [rClause, rAtom_sW, rSign_sW, rBody_sW, rEat_sW, List.length_map]
theorem rRules_sW (ws : List Wd) : ∀ (n : Nat) (l : List Rl) (k e : Nat), rRules (ws.map sW) n l k e = rRules ws n l k e
  | 0, _, _, _ => rfl
  | n + 1, l, k, e => by simp only [rRules, rClause_sW, rRules_sW ws n, List.length_map]
def rProg (ws : List Wd) (wh : Bool) : List Rl × Nat :=
  let r := rRules ws (ws.length + 1) [] 0 0
  let e := rBad r.2.2 (if wh then 0 else 4)
  if e = 0 then (r.1, 0) else ([], e)
theorem rProgram_ws {s : List Nat} (h : s.length ≤ 4000) : rProgram s = rProg (scan 0 s).1 (scan 0 s).2 := by
  unfold rProgram; rw [if_neg (by omega)]; rfl
theorem rProg_sW (ws : List Wd) (wh : Bool) : rProg (ws.map sW) wh = rProg ws wh := by
  unfold rProg; rw [rRules_sW, List.length_map]
theorem rProgram_same {s t : List Nat} (hs : s.length ≤ 4000) (ht : t.length ≤ 4000) (h1 : (scan 0 s).1.map sW = (scan 0 t).1.map sW) (h2 : (scan 0 s).2 = (scan 0 t).2) : rProgram s = rProgram t := by
  rw [rProgram_ws hs, rProgram_ws ht, ← rProg_sW, h1, rProg_sW, h2]
end Delphi
set_option linter.unusedVariables false
set_option linter.unusedSimpArgs false
namespace Delphi
variable (fm : Int → List Nat)
def At (ws : List Wd) (k : Nat) (l : List Wd) : Prop := l <+: ws.drop k
theorem At.head {ws l : List Wd} {k : Nat} {w : Wd} (h : At ws k (w :: l)) : ws[k]? = some w ∧ At ws (k + 1) l := by
  obtain ⟨r, hr⟩ := h
  have hlt : k < ws.length := by
    have := congrArg List.length hr
    simp at this; omega
  rw [List.drop_eq_getElem_cons hlt] at hr
  rw [List.cons_append] at hr
  injection hr with h1 h2
  exact ⟨by rw [List.getElem?_eq_getElem hlt, h1], r, h2⟩
theorem At.app {ws l m : List Wd} {k : Nat} (h : At ws k (l ++ m)) : At ws k l ∧ At ws (k + l.length) m := by
  obtain ⟨r, hr⟩ := h
  refine ⟨⟨m ++ r, by rw [← hr, List.append_assoc]⟩, r, ?_⟩
  have := congrArg (List.drop l.length) hr
  rw [List.append_assoc, List.drop_left, List.drop_drop] at this
  exact this
theorem At.le {ws l : List Wd} {k : Nat} (h : At ws k l) (hk : k ≤ ws.length) : k + l.length ≤ ws.length := by
  have := h.length_le
  rw [List.length_drop] at this; omega
def cmpT (k : Nat) : List Nat := if k = 3 then [61] else if k = 4 then [33, 61] else if k = 5 then [60] else if k = 6 then [60, 61] else []
def TmW (t : Tm) : Prop := (t.kind = 1 ∧ t.num = 0) ∨ (t.kind = 2 ∧ t.num = 0) ∨ (t.kind = 3 ∧ t.name = [] ∧ t.num.natAbs ≤ 2147483648)
structure LtW (l : Lt) : Prop where
  kind : (l.kind = 1 ∨ l.kind = 2) ∨ (3 ≤ l.kind ∧ l.kind ≤ 6 ∧ l.args.length = 2 ∧ l.name = [])
  tm : ∀ t ∈ l.args, TmW t
variable {fm}
end Delphi
set_option linter.unusedVariables false
set_option linter.unusedSimpArgs false
namespace Delphi
variable {fm : Int → List Nat}
end Delphi
set_option linter.unusedVariables false
set_option linter.unusedSimpArgs false
namespace Delphi
variable (fm : Int → List Nat)
variable {fm}
def TmX (fm : Int → List Nat) (t : Tm) : Prop := (t.kind = 1 → varT t.name) ∧ (t.kind = 2 → nameT t.name) ∧ (t.kind = 3 → decT (fm t.num))
structure LtX (fm : Int → List Nat) (l : Lt) : Prop where
  w : LtW l
  nm : l.kind = 1 ∨ l.kind = 2 → nameT l.name
  tm : ∀ t ∈ l.args, TmX fm t
end Delphi
set_option linter.unusedVariables false
set_option linter.unusedSimpArgs false
namespace Delphi
open Go.AE
variable [Globs]
def TG (t : Tm) : Prop := TmW t ∧ TmX fmtI t
structure AtG (l : Lt) : Prop where
  kind : l.kind = 1
  nm : nameT l.name
  tm : ∀ t ∈ l.args, TG t
  four : l.args.length ≤ 4
structure LG (l : Lt) : Prop where
  x : LtX fmtI l
  four : l.args.length ≤ 4
omit [Globs] in
theorem AtG.lit {l : Lt} (h : AtG l) : LG l := ⟨⟨⟨.inl (.inl h.kind), fun t ht => (h.tm t ht).1⟩, fun _ => h.nm, fun t ht => (h.tm t ht).2⟩, h.four⟩
end Delphi
set_option linter.unusedVariables false
set_option linter.unusedSimpArgs false
set_option linter.unusedSectionVars false
namespace Delphi
open Go.AE
variable [Globs]
end Delphi
set_option linter.unusedVariables false
set_option maxRecDepth 10000
set_option linter.unusedSimpArgs false
namespace Go.Proofs.YtpbdojjfokelaaaDoor
open Go.AE Delphi Val
variable {tab : Tab}
theorem addS (a b : List Nat) (h : a.length + b.length ≤ 1000000) : ∃ c, c = a ++ b ∧ strS BinOp.add a b = some (.str c) := by
  refine ⟨_, rfl, ?_⟩
  simp only [strS]; rw [if_pos (by omega)]
end Go.Proofs.YtpbdojjfokelaaaDoor
set_option linter.unusedVariables false
set_option maxRecDepth 10000
set_option linter.unusedSimpArgs false
namespace Go.Proofs.YtpbdojjfokelaaaDoor
open Go.AE Delphi Val
variable {tab : Tab}
end Go.Proofs.YtpbdojjfokelaaaDoor
set_option linter.unusedVariables false
set_option linter.unusedSimpArgs false
namespace Delphi
def noteG : List Nat := [32, 37, 32, 110, 111, 116, 101, 46, 10]
def gapG (b : Bool) : List Nat := if b then noteG else [32, 9]
theorem gap_note : Gap noteG := fun r => by simp [noteG, blk, isBlank]; omega
theorem gap_G (b : Bool) : Gap (gapG b) := by
  cases b with
  | true => exact gap_note
  | false => exact (gap_one (c := 32) rfl).app (gap_one (c := 9) rfl)
def blT (f : Nat → Bool) : Nat → List Wd → List Nat
  | _, [] => []
  | i, w :: l => w.text ++ (gapG (f i) ++ blT f (i + 1) l)
theorem blT_snoc (f : Nat → Bool) : ∀ (l : List Wd) (i : Nat) (w : Wd), blT f i (l ++ [w]) = blT f i l ++ w.text ++ gapG (f (i + l.length))
  | [], i, w => by simp [blT]
  | x :: l, i, w => by
    have e : i + (x :: l).length = i + 1 + l.length := by simp only [List.length_cons]; omega
    rw [e]
    simp only [List.cons_append, blT, blT_snoc f l (i + 1) w, List.append_assoc]
theorem gapG_32 (b : Bool) : ∃ g, gapG b = 32 :: g := by cases b <;> exact ⟨_, rfl⟩
theorem scan_blT (f : Nat → Bool) : ∀ (l : List Wd) (i n : Nat), (∀ w ∈ l, IsWd w) → ∃ ws, ws.map sW = l.map sW ∧ scan n (blT f i l) = (ws, true)
  | [], i, n, _ => ⟨[], rfl, by rw [blT, scan_eq]; rfl⟩
  | w :: l, i, n, h => by
    obtain ⟨u, h1, h2, h3, h4⟩ := h w (by simp)
    have hle := lexWord_le u
    have htl : w.text.length = (lexWord u).2 := by rw [h3, List.length_take]; omega
    obtain ⟨g, hg⟩ := gapG_32 (f i)
    have hlw : lexWord (w.text ++ (gapG (f i) ++ blT f (i + 1) l)) = (w.kind, w.text.length) := by
      rw [hg, List.cons_append, h3, lexWord_apart u _ h1, ← h3, htl, h2]
    obtain ⟨ws, h5, h6⟩ := scan_blT f l (i + 1) (n + w.text.length + (gapG (f i)).length) fun x hx => h x (by simp [hx])
    refine ⟨⟨w.kind, w.text, n⟩ :: ws, ?_, ?_⟩
    · rw [List.map_cons, List.map_cons, h5]; rfl
    · have hs := scan_word (n := n) (k := w.kind) (s := w.text) (r := gapG (f i) ++ blT f (i + 1) l) (by intro he; rw [he] at htl; simp at htl; omega) (by
        intro h; rw [htl]; exact Nat.le_of_not_lt fun h16 => h4 ⟨by rw [← h2]; exact h, h16⟩) hlw
      show scan n (w.text ++ (gapG (f i) ++ blT f (i + 1) l)) = _
      rw [hs, (gap_G (f i)).scan, h6]
theorem blT_len (f : Nat → Bool) : ∀ (l : List Wd) (i : Nat), (blT f i l).length ≤ textLen l + 9 * l.length
  | [], i => by simp [blT]
  | w :: l, i => by
    have h1 := blT_len f l (i + 1)
    have h2 : (gapG (f i)).length ≤ 9 := by cases f i <;> simp [gapG, noteG]
    simp only [blT, List.length_append, textLen, List.length_cons]; omega
theorem blT_bytes (f : Nat → Bool) : ∀ (l : List Wd) (i : Nat), (∀ w ∈ l, ∀ x ∈ w.text, x < 256) → ∀ x ∈ blT f i l, x < 256
  | [], i, _ => by simp [blT]
  | w :: l, i, h => by
    intro x hx
    simp only [blT, List.mem_append] at hx
    rcases hx with hx | hx | hx
    · exact h w (by simp) x hx
    · have : ∀ b, ∀ x ∈ gapG b, x < 256 := by decide
      exact this _ x hx
    · exact blT_bytes f l (i + 1) (fun v hv => h v (by simp [hv])) x hx
theorem rProgram_blT {s : List Nat} (f : Nat → Bool) (hl : s.length ≤ 300) (hok : (scan 0 s).2 = true) : rProgram (blT f 0 (scan 0 s).1) = rProgram s := by
  have h1 := scan_words s.length 0 s (Nat.le_refl _)
  have h2 := scan_textLen s.length 0 s (Nat.le_refl _)
  have h3 := scan_len s.length 0 s (Nat.le_refl _)
  have h4 := blT_len f (scan 0 s).1 0
  obtain ⟨ws, h5, h6⟩ := scan_blT f (scan 0 s).1 0 0 h1
  refine rProgram_same (by omega) (by omega) ?_ ?_
  · rw [h6]; exact h5
  · rw [h6, hok]
end Delphi
set_option linter.unusedVariables false
set_option maxRecDepth 10000
set_option linter.unusedSimpArgs false
namespace Go.Proofs.YtpbdojjfokelaaaDoor
open Go.AE Delphi Val
variable {tab : Tab}
def kdsC (ks : List Int) : List V := ks.map fun k => .int .i64 k
def kdF (ks : List Int) (i : Nat) : Bool := match ks[i]? with
  | some k => decide (k.tmod 4 = 1)
  | none => false
structure BkF (f : Fr) (wv kv mv : V) (e : Int) : Prop where
  f1 : f.get 1 = some kv
  f6 : f.get 6 = some mv
  f7 : f.get 7 = some (.int .i64 e)
  f8 : f.get 8 = some wv
theorem syntaxBlanks_law (C : Codes tab) (F : Formats tab) (PI : Parses tab) (J : Joins tab) (E : ExtIdx tab) {Tk : Nat → Prop} {s : List Nat} {ks : List Int} {kv : V} {aw : AW} (hb : ∀ x ∈ s, x < 256) (hks : Rd Tk aw kv 1 ks.length (kdsC ks)) : WF tab n_law8_SyntaxBlanks [.str s, kv] aw (fun v aw' => v = .bool true ∧ Frm (fun _ => False) aw aw') := by
  refine WF_of C.c_law8_SyntaxBlanks rfl ?_
  refine WS_run 1000 (by simp only [go_sem, eRun_exit, Nat.reduceAdd, Nat.reduceLT, Nat.reduceEqDiff, reduceIte, reduceCtorEq, Int.reduceLT, Int.reduceBEq, Int.reduceGE, Int.reduceEq, Int.reduceAdd, Nat.reduceLeDiff, k_law8_SyntaxBlanks]; rfl) ?_
  refine WS_call (by simp only [go_sem, eRun_exit, Nat.reduceAdd, Nat.reduceLT, Nat.reduceEqDiff, reduceIte, reduceCtorEq, Int.reduceLT, Int.reduceBEq, Int.reduceGE, Int.reduceEq, Int.reduceAdd, Nat.reduceLeDiff]) (by simp only [go_sem, eRun_exit, Nat.reduceAdd, Nat.reduceLT, Nat.reduceEqDiff, reduceIte, reduceCtorEq, Int.reduceLT, Int.reduceBEq, Int.reduceGE, Int.reduceEq, Int.reduceAdd, Nat.reduceLeDiff]; rfl) ?_
  refine begun8_ok C F PI J E fun w0 g0 => ?_
  refine WS_run 1000 (by simp only [go_sem, eRun_exit, Nat.reduceAdd, Nat.reduceLT, Nat.reduceEqDiff, reduceIte, reduceCtorEq, Int.reduceLT, Int.reduceBEq, Int.reduceGE, Int.reduceEq, Int.reduceAdd, Nat.reduceLeDiff, k_law8_SyntaxBlanks_p12]; rfl) ?_
  refine WS_call (by simp only [go_sem, eRun_exit, Nat.reduceAdd, Nat.reduceLT, Nat.reduceEqDiff, reduceIte, reduceCtorEq, Int.reduceLT, Int.reduceBEq, Int.reduceGE, Int.reduceEq, Int.reduceAdd, Nat.reduceLeDiff]) (by simp only [go_sem, eRun_exit, Nat.reduceAdd, Nat.reduceLT, Nat.reduceEqDiff, reduceIte, reduceCtorEq, Int.reduceLT, Int.reduceBEq, Int.reduceGE, Int.reduceEq, Int.reduceAdd, Nat.reduceLeDiff]; rfl) ?_
  refine lcut_ok C (n := 300) ?_
  have hl : (s.take 300).length ≤ 300 := by rw [List.length_take]; omega
  have hbt : ∀ x ∈ s.take 300, x < 256 := fun x hx => hb x (List.mem_of_mem_take hx)
  generalize s.take 300 = t at hl hbt ⊢
  refine WS_run 1000 (by simp only [go_sem, eRun_exit, Nat.reduceAdd, Nat.reduceLT, Nat.reduceEqDiff, reduceIte, reduceCtorEq, Int.reduceLT, Int.reduceBEq, Int.reduceGE, Int.reduceEq, Int.reduceAdd, Nat.reduceLeDiff, k_law8_SyntaxBlanks_p11]; rfl) ?_
  refine WS_call (by simp only [go_sem, eRun_exit, Nat.reduceAdd, Nat.reduceLT, Nat.reduceEqDiff, reduceIte, reduceCtorEq, Int.reduceLT, Int.reduceBEq, Int.reduceGE, Int.reduceEq, Int.reduceAdd, Nat.reduceLeDiff]) (by simp only [go_sem, eRun_exit, Nat.reduceAdd, Nat.reduceLT, Nat.reduceEqDiff, reduceIte, reduceCtorEq, Int.reduceLT, Int.reduceBEq, Int.reduceGE, Int.reduceEq, Int.reduceAdd, Nat.reduceLeDiff]; rfl) ?_
  refine rprogram_ok C (by omega) hbt fun w1 mv T1 q1 q2 q3 => ?_
  refine WS_run 1000 (by simp only [go_sem, eRun_exit, Nat.reduceAdd, Nat.reduceLT, Nat.reduceEqDiff, reduceIte, reduceCtorEq, Int.reduceLT, Int.reduceBEq, Int.reduceGE, Int.reduceEq, Int.reduceAdd, Nat.reduceLeDiff, k_law8_SyntaxBlanks_p10]; rfl) ?_
  refine WS_call (by simp only [go_sem, eRun_exit, Nat.reduceAdd, Nat.reduceLT, Nat.reduceEqDiff, reduceIte, reduceCtorEq, Int.reduceLT, Int.reduceBEq, Int.reduceGE, Int.reduceEq, Int.reduceAdd, Nat.reduceLeDiff]) (by simp only [go_sem, eRun_exit, Nat.reduceAdd, Nat.reduceLT, Nat.reduceEqDiff, reduceIte, reduceCtorEq, Int.reduceLT, Int.reduceBEq, Int.reduceGE, Int.reduceEq, Int.reduceAdd, Nat.reduceLeDiff]; rfl) ?_
  refine rscan_ok C (by omega) (fun h => by omega) fun _ wv w2 hown hext => ?_
  have g12 : Frm (fun _ => False) w1 w2 := hext.frm (S := fun _ => False) fun x hx hn => by omega
  have g02 := (g0.tr q2).tr g12
  have hm2 := q1.frm (fun _ _ h => h.frm g12 fun _ _ h => h) g12 fun _ _ h => h
  have hks2 := hks.frm g02 fun _ _ h => h
  obtain ⟨wl, wok⟩ := scan_wok hbt
  have hpg := rProgram_blT (kdF ks) hl
  have hbl := blT_len (kdF ks) (scan 0 t).1 0
  have htl := scan_textLen t.length 0 t (Nat.le_refl _)
  have hbb := blT_bytes (kdF ks) (scan 0 t).1 0 fun w hw => (wok w hw).2.2.2.2
  cases hok : (scan 0 t).2 with
  | false =>
    refine WS_run 1000 (by simp only [go_sem, eRun_exit, Nat.reduceAdd, Nat.reduceLT, Nat.reduceEqDiff, reduceIte, reduceCtorEq, Int.reduceLT, Int.reduceBEq, Int.reduceGE, Int.reduceEq, Int.reduceAdd, Nat.reduceLeDiff, k_law8_SyntaxBlanks_p9, k_law8_SyntaxBlanks_p1]; rfl) ?_
    refine WS_ret ⟨_, by simp only [go_sem, eRun_exit, Nat.reduceAdd, Nat.reduceLT, Nat.reduceEqDiff, reduceIte, reduceCtorEq, Int.reduceLT, Int.reduceBEq, Int.reduceGE, Int.reduceEq, Int.reduceAdd, Nat.reduceLeDiff, k_law8_SyntaxBlanks]; rfl, ?_⟩
    exact ⟨rfl, g02⟩
  | true =>
  have hpg := hpg hok
  have hrd := hown.rd
  generalize (scan 0 t).1 = ws at hown wl wok hpg hrd hbl hbb htl
  have hw : Wds (fun b => w1.next ≤ b ∧ b < w2.next) w2 w2.next wv ws := ⟨hrd, fun h => by omega, by omega⟩
  have hwlv := hrd.lenV
  have hklv := hks2.lenV
  obtain ⟨hd1, hd2⟩ := rProgram_bd t
  obtain ⟨e, hE⟩ : ∃ e, (rProgram t).2 = e := ⟨_, rfl⟩
  rw [hE]
  refine WS_run 1000 (by simp only [go_sem, eRun_exit, Nat.reduceAdd, Nat.reduceLT, Nat.reduceEqDiff, reduceIte, reduceCtorEq, Int.reduceLT, Int.reduceBEq, Int.reduceGE, Int.reduceEq, Int.reduceAdd, Nat.reduceLeDiff, k_law8_SyntaxBlanks_p9]; rfl) ?_
  refine WS_loopJ (fun q f w => ∃ i u, u = blT (kdF ks) 0 (ws.take i) ∧ BkF f wv kv mv (Int.ofNat e) ∧ f.get 10 = some (.str u) ∧ f.get 11 = some (.int .i64 (Int.ofNat i)) ∧ w = w2 ∧ i ≤ ws.length ∧ q = ws.length - i) (fun f w => BkF f wv kv mv (Int.ofNat e) ∧ f.get 10 = some (.str (blT (kdF ks) 0 ws)) ∧ w = w2) ?_ ?_ ws.length
    ⟨0, [], rfl, ⟨(by simp only [go_sem, eRun_exit, Nat.reduceAdd, Nat.reduceLT, Nat.reduceEqDiff, reduceIte, reduceCtorEq, Int.reduceLT, Int.reduceBEq, Int.reduceGE, Int.reduceEq, Int.reduceAdd, Nat.reduceLeDiff] <;> rfl), (by simp only [go_sem, eRun_exit, Nat.reduceAdd, Nat.reduceLT, Nat.reduceEqDiff, reduceIte, reduceCtorEq, Int.reduceLT, Int.reduceBEq, Int.reduceGE, Int.reduceEq, Int.reduceAdd, Nat.reduceLeDiff] <;> rfl), (by simp only [go_sem, eRun_exit, Nat.reduceAdd, Nat.reduceLT, Nat.reduceEqDiff, reduceIte, reduceCtorEq, Int.reduceLT, Int.reduceBEq, Int.reduceGE, Int.reduceEq, Int.reduceAdd, Nat.reduceLeDiff] <;> rfl), (by simp only [go_sem, eRun_exit, Nat.reduceAdd, Nat.reduceLT, Nat.reduceEqDiff, reduceIte, reduceCtorEq, Int.reduceLT, Int.reduceBEq, Int.reduceGE, Int.reduceEq, Int.reduceAdd, Nat.reduceLeDiff] <;> rfl)⟩, (by simp only [go_sem, eRun_exit, Nat.reduceAdd, Nat.reduceLT, Nat.reduceEqDiff, reduceIte, reduceCtorEq, Int.reduceLT, Int.reduceBEq, Int.reduceGE, Int.reduceEq, Int.reduceAdd, Nat.reduceLeDiff] <;> rfl), (by simp only [go_sem, eRun_exit, Nat.reduceAdd, Nat.reduceLT, Nat.reduceEqDiff, reduceIte, reduceCtorEq, Int.reduceLT, Int.reduceBEq, Int.reduceGE, Int.reduceEq, Int.reduceAdd, Nat.reduceLeDiff] <;> rfl), rfl, Nat.zero_le _, rfl⟩
  · rintro q f w ⟨i, u, hu, ⟨f1, f6, f7, f8⟩, f10, f11, rfl, hi, rfl⟩ ih out
    by_cases hlt : i < ws.length
    case neg =>
      obtain rfl : i = ws.length := by omega
      rw [List.take_length] at hu
      refine WS_runB 1000 (by simp only [go_sem, Nat.reduceAdd, Nat.reduceLT, Nat.reduceEqDiff, reduceIte, reduceCtorEq, Int.reduceLT, Int.reduceBEq, Int.reduceGE, Int.reduceEq, Int.reduceAdd, Nat.reduceLeDiff, k_law8_SyntaxBlanks_p6, f8, f11, hwlv, hlt]; rfl) ?_
      exact out _ _ _ ⟨⟨(by simp only [go_sem, eRun_exit, Nat.reduceAdd, Nat.reduceLT, Nat.reduceEqDiff, reduceIte, reduceCtorEq, Int.reduceLT, Int.reduceBEq, Int.reduceGE, Int.reduceEq, Int.reduceAdd, Nat.reduceLeDiff, f1] <;> rfl), (by simp only [go_sem, eRun_exit, Nat.reduceAdd, Nat.reduceLT, Nat.reduceEqDiff, reduceIte, reduceCtorEq, Int.reduceLT, Int.reduceBEq, Int.reduceGE, Int.reduceEq, Int.reduceAdd, Nat.reduceLeDiff, f6] <;> rfl), (by simp only [go_sem, eRun_exit, Nat.reduceAdd, Nat.reduceLT, Nat.reduceEqDiff, reduceIte, reduceCtorEq, Int.reduceLT, Int.reduceBEq, Int.reduceGE, Int.reduceEq, Int.reduceAdd, Nat.reduceLeDiff, f7] <;> rfl), (by simp only [go_sem, eRun_exit, Nat.reduceAdd, Nat.reduceLT, Nat.reduceEqDiff, reduceIte, reduceCtorEq, Int.reduceLT, Int.reduceBEq, Int.reduceGE, Int.reduceEq, Int.reduceAdd, Nat.reduceLeDiff, f8] <;> rfl)⟩, by rw [← hu]; exact (by simp only [go_sem, eRun_exit, Nat.reduceAdd, Nat.reduceLT, Nat.reduceEqDiff, reduceIte, reduceCtorEq, Int.reduceLT, Int.reduceBEq, Int.reduceGE, Int.reduceEq, Int.reduceAdd, Nat.reduceLeDiff, f10] <;> rfl), rfl⟩ rfl
    obtain ⟨x, hx⟩ : ∃ x, ws[i]? = some x := ⟨_, List.getElem?_eq_getElem hlt⟩
    have hwr : IntKind.wrap .i64 (Int.ofNat i + 1) = Int.ofNat (i + 1) := wrap_succ (by omega)
    rcases hw.at with ⟨rfl, h0⟩ | ⟨b, o, c, rfl, _, _, hat⟩
    · rw [h0] at hlt; simp at hlt
    obtain ⟨_, a2, _⟩ := hat i x hx
    have hle1 : (ws.take i).length ≤ 300 := by rw [List.length_take]; omega
    have htk : ws.take (i + 1) = ws.take i ++ [x] := by rw [List.take_add_one, hx]; rfl
    have hsn := blT_snoc (kdF ks) (ws.take i) 0 x
    rw [← htk, List.length_take, Nat.min_eq_left (by omega), Nat.zero_add, ← hu] at hsn
    -- lengths
    have hul : u.length + x.text.length ≤ 900000 := by
      have h1 := blT_len (kdF ks) (ws.take i) 0
      rw [← hu] at h1
      have h2 : ∀ l : List Wd, (∀ w ∈ l, w.text.length ≤ 300) → textLen l ≤ 300 * l.length := by
        intro l
        induction l with
        | nil => intro _; simp [textLen]
        | cons y l ih => intro h; have := h y (by simp); have := ih fun z hz => h z (by simp [hz]); simp only [textLen, List.length_cons]; omega
      have h3 : ∀ l : List Wd, ∀ y ∈ l, y.text.length ≤ textLen l := by
        intro l
        induction l with
        | nil => intro y hy; simp at hy
        | cons z l ih =>
          intro y hy
          simp only [textLen]
          rcases List.mem_cons.1 hy with rfl | hy
          · omega
          · have := ih y hy; omega
      have h4 := h3 ws x (List.mem_of_getElem? hx)
      have h5 := h2 (ws.take i) fun y hy => by have := h3 ws y (List.mem_of_mem_take hy); omega
      omega
    obtain ⟨c1, hc1, e1⟩ := addS u x.text (by omega)
    have hc1l : c1.length ≤ 900000 := by rw [hc1, List.length_append]; omega
    by_cases hik : i < ks.length
    case neg =>
      have hkf : kdF ks i = false := by unfold kdF; rw [List.getElem?_eq_none (by omega)]
      obtain ⟨c2, hc2, e2⟩ := addS c1 [32, 9] (by simp; omega)
      refine WS_run 1000 (by simp only [go_sem, eRun_exit, Nat.reduceAdd, Nat.reduceLT, Nat.reduceEqDiff, reduceIte, reduceCtorEq, Int.reduceLT, Int.reduceBEq, Int.reduceGE, Int.reduceEq, Int.reduceAdd, Nat.reduceLeDiff, k_law8_SyntaxBlanks_p6, k_law8_SyntaxBlanks_p5, k_law8_SyntaxBlanks_p4, k_law8_SyntaxBlanks_p3, f1, f8, f10, f11, hlt, a2, e1, hklv, hik, e2, hwr]; rfl) ?_
      exact ih _ _ _ (by omega) ⟨i + 1, c2, by rw [hsn, hc2, hc1, hkf]; rfl, ⟨(by simp only [go_sem, eRun_exit, Nat.reduceAdd, Nat.reduceLT, Nat.reduceEqDiff, reduceIte, reduceCtorEq, Int.reduceLT, Int.reduceBEq, Int.reduceGE, Int.reduceEq, Int.reduceAdd, Nat.reduceLeDiff, f1] <;> rfl), (by simp only [go_sem, eRun_exit, Nat.reduceAdd, Nat.reduceLT, Nat.reduceEqDiff, reduceIte, reduceCtorEq, Int.reduceLT, Int.reduceBEq, Int.reduceGE, Int.reduceEq, Int.reduceAdd, Nat.reduceLeDiff, f6] <;> rfl), (by simp only [go_sem, eRun_exit, Nat.reduceAdd, Nat.reduceLT, Nat.reduceEqDiff, reduceIte, reduceCtorEq, Int.reduceLT, Int.reduceBEq, Int.reduceGE, Int.reduceEq, Int.reduceAdd, Nat.reduceLeDiff, f7] <;> rfl), (by simp only [go_sem, eRun_exit, Nat.reduceAdd, Nat.reduceLT, Nat.reduceEqDiff, reduceIte, reduceCtorEq, Int.reduceLT, Int.reduceBEq, Int.reduceGE, Int.reduceEq, Int.reduceAdd, Nat.reduceLeDiff, f8] <;> rfl)⟩, (by simp only [go_sem, eRun_exit, Nat.reduceAdd, Nat.reduceLT, Nat.reduceEqDiff, reduceIte, reduceCtorEq, Int.reduceLT, Int.reduceBEq, Int.reduceGE, Int.reduceEq, Int.reduceAdd, Nat.reduceLeDiff] <;> rfl), (by simp only [go_sem, eRun_exit, Nat.reduceAdd, Nat.reduceLT, Nat.reduceEqDiff, reduceIte, reduceCtorEq, Int.reduceLT, Int.reduceBEq, Int.reduceGE, Int.reduceEq, Int.reduceAdd, Nat.reduceLeDiff] <;> rfl), rfl, by omega, rfl⟩
    obtain ⟨k, hk⟩ : ∃ k, ks[i]? = some k := ⟨_, List.getElem?_eq_getElem hik⟩
    rcases hks2.inv with ⟨_, h0, _⟩ | ⟨bk, ok', ck, rfl, hB⟩
    · omega
    have ak : w.load bk (ok' + i * 1) 1 = some [.int .i64 k] := by
      rw [Nat.mul_one]
      exact hB.cell (by omega) (by unfold kdsC; rw [List.getElem?_map, hk]; rfl)
    by_cases h1 : k.tmod 4 = 1
    · have hkf : kdF ks i = true := by unfold kdF; rw [hk]; exact decide_eq_true h1
      obtain ⟨c2, hc2, e2⟩ := addS c1 noteG (by simp [noteG]; omega)
      have e2 : strS BinOp.add c1 [32, 37, 32, 110, 111, 116, 101, 46, 10] = some (.str c2) := e2
      refine WS_run 1000 (by simp only [go_sem, eRun_exit, Nat.reduceAdd, Nat.reduceLT, Nat.reduceEqDiff, reduceIte, reduceCtorEq, Int.reduceLT, Int.reduceBEq, Int.reduceGE, Int.reduceEq, Int.reduceAdd, Nat.reduceLeDiff, k_law8_SyntaxBlanks_p6, k_law8_SyntaxBlanks_p5, k_law8_SyntaxBlanks_p4, k_law8_SyntaxBlanks_p2, f1, f8, f10, f11, hlt, a2, e1, hklv, hik, ak, h1, e2, hwr]; rfl) ?_
      exact ih _ _ _ (by omega) ⟨i + 1, c2, by rw [hsn, hc2, hc1, hkf]; rfl, ⟨(by simp only [go_sem, eRun_exit, Nat.reduceAdd, Nat.reduceLT, Nat.reduceEqDiff, reduceIte, reduceCtorEq, Int.reduceLT, Int.reduceBEq, Int.reduceGE, Int.reduceEq, Int.reduceAdd, Nat.reduceLeDiff, f1] <;> rfl), (by simp only [go_sem, eRun_exit, Nat.reduceAdd, Nat.reduceLT, Nat.reduceEqDiff, reduceIte, reduceCtorEq, Int.reduceLT, Int.reduceBEq, Int.reduceGE, Int.reduceEq, Int.reduceAdd, Nat.reduceLeDiff, f6] <;> rfl), (by simp only [go_sem, eRun_exit, Nat.reduceAdd, Nat.reduceLT, Nat.reduceEqDiff, reduceIte, reduceCtorEq, Int.reduceLT, Int.reduceBEq, Int.reduceGE, Int.reduceEq, Int.reduceAdd, Nat.reduceLeDiff, f7] <;> rfl), (by simp only [go_sem, eRun_exit, Nat.reduceAdd, Nat.reduceLT, Nat.reduceEqDiff, reduceIte, reduceCtorEq, Int.reduceLT, Int.reduceBEq, Int.reduceGE, Int.reduceEq, Int.reduceAdd, Nat.reduceLeDiff, f8] <;> rfl)⟩, (by simp only [go_sem, eRun_exit, Nat.reduceAdd, Nat.reduceLT, Nat.reduceEqDiff, reduceIte, reduceCtorEq, Int.reduceLT, Int.reduceBEq, Int.reduceGE, Int.reduceEq, Int.reduceAdd, Nat.reduceLeDiff] <;> rfl), (by simp only [go_sem, eRun_exit, Nat.reduceAdd, Nat.reduceLT, Nat.reduceEqDiff, reduceIte, reduceCtorEq, Int.reduceLT, Int.reduceBEq, Int.reduceGE, Int.reduceEq, Int.reduceAdd, Nat.reduceLeDiff] <;> rfl), rfl, by omega, rfl⟩
    · have hkf : kdF ks i = false := by unfold kdF; rw [hk]; exact decide_eq_false h1
      have h1' : (k.tmod 4 == 1) = false := by simpa using h1
      obtain ⟨c2, hc2, e2⟩ := addS c1 [32, 9] (by simp; omega)
      refine WS_run 1000 (by simp only [go_sem, eRun_exit, Nat.reduceAdd, Nat.reduceLT, Nat.reduceEqDiff, reduceIte, reduceCtorEq, Int.reduceLT, Int.reduceBEq, Int.reduceGE, Int.reduceEq, Int.reduceAdd, Nat.reduceLeDiff, k_law8_SyntaxBlanks_p6, k_law8_SyntaxBlanks_p5, k_law8_SyntaxBlanks_p4, k_law8_SyntaxBlanks_p3, f1, f8, f10, f11, hlt, a2, e1, hklv, hik, ak, h1, h1', e2, hwr]; rfl) ?_
      exact ih _ _ _ (by omega) ⟨i + 1, c2, by rw [hsn, hc2, hc1, hkf]; rfl, ⟨(by simp only [go_sem, eRun_exit, Nat.reduceAdd, Nat.reduceLT, Nat.reduceEqDiff, reduceIte, reduceCtorEq, Int.reduceLT, Int.reduceBEq, Int.reduceGE, Int.reduceEq, Int.reduceAdd, Nat.reduceLeDiff, f1] <;> rfl), (by simp only [go_sem, eRun_exit, Nat.reduceAdd, Nat.reduceLT, Nat.reduceEqDiff, reduceIte, reduceCtorEq, Int.reduceLT, Int.reduceBEq, Int.reduceGE, Int.reduceEq, Int.reduceAdd, Nat.reduceLeDiff, f6] <;> rfl), (by simp only [go_sem, eRun_exit, Nat.reduceAdd, Nat.reduceLT, Nat.reduceEqDiff, reduceIte, reduceCtorEq, Int.reduceLT, Int.reduceBEq, Int.reduceGE, Int.reduceEq, Int.reduceAdd, Nat.reduceLeDiff, f7] <;> rfl), (by simp only [go_sem, eRun_exit, Nat.reduceAdd, Nat.reduceLT, Nat.reduceEqDiff, reduceIte, reduceCtorEq, Int.reduceLT, Int.reduceBEq, Int.reduceGE, Int.reduceEq, Int.reduceAdd, Nat.reduceLeDiff, f8] <;> rfl)⟩, (by simp only [go_sem, eRun_exit, Nat.reduceAdd, Nat.reduceLT, Nat.reduceEqDiff, reduceIte, reduceCtorEq, Int.reduceLT, Int.reduceBEq, Int.reduceGE, Int.reduceEq, Int.reduceAdd, Nat.reduceLeDiff] <;> rfl), (by simp only [go_sem, eRun_exit, Nat.reduceAdd, Nat.reduceLT, Nat.reduceEqDiff, reduceIte, reduceCtorEq, Int.reduceLT, Int.reduceBEq, Int.reduceGE, Int.reduceEq, Int.reduceAdd, Nat.reduceLeDiff] <;> rfl), rfl, by omega, rfl⟩
  rintro f w ⟨⟨f1, f6, f7, f8⟩, f10, rfl⟩
  have hbl2 : (blT (kdF ks) 0 ws).length ≤ 4000 := by omega
  generalize blT (kdF ks) 0 ws = u at *
  refine WS_run 1000 (by simp only [go_sem, eRun_exit, Nat.reduceAdd, Nat.reduceLT, Nat.reduceEqDiff, reduceIte, reduceCtorEq, Int.reduceLT, Int.reduceBEq, Int.reduceGE, Int.reduceEq, Int.reduceAdd, Nat.reduceLeDiff, f10, k_law8_SyntaxBlanks_p8]; rfl) ?_
  refine WS_call (by simp only [go_sem, eRun_exit, Nat.reduceAdd, Nat.reduceLT, Nat.reduceEqDiff, reduceIte, reduceCtorEq, Int.reduceLT, Int.reduceBEq, Int.reduceGE, Int.reduceEq, Int.reduceAdd, Nat.reduceLeDiff]) (by simp only [go_sem, eRun_exit, Nat.reduceAdd, Nat.reduceLT, Nat.reduceEqDiff, reduceIte, reduceCtorEq, Int.reduceLT, Int.reduceBEq, Int.reduceGE, Int.reduceEq, Int.reduceAdd, Nat.reduceLeDiff]; rfl) ?_
  refine sprogram_ok C PI E (by omega) hbb fun w3 v T h1 h2 h3 => ?_
  rw [hpg] at h1 ⊢
  rw [hE]
  refine WS_run 1000 (by simp only [go_sem, eRun_exit, Nat.reduceAdd, Nat.reduceLT, Nat.reduceEqDiff, reduceIte, reduceCtorEq, Int.reduceLT, Int.reduceBEq, Int.reduceGE, Int.reduceEq, Int.reduceAdd, Nat.reduceLeDiff, f6, f7, k_law8_SyntaxBlanks_p7]; rfl) ?_
  refine WS_call (by simp only [go_sem, eRun_exit, Nat.reduceAdd, Nat.reduceLT, Nat.reduceEqDiff, reduceIte, reduceCtorEq, Int.reduceLT, Int.reduceBEq, Int.reduceGE, Int.reduceEq, Int.reduceAdd, Nat.reduceLeDiff]) (by simp only [go_sem, eRun_exit, Nat.reduceAdd, Nat.reduceLT, Nat.reduceEqDiff, reduceIte, reduceCtorEq, Int.reduceLT, Int.reduceBEq, Int.reduceGE, Int.reduceEq, Int.reduceAdd, Nat.reduceLeDiff]; rfl) ?_
  refine eqRules_ok C h1 (hm2.frm (fun _ _ h => h.frm h2 fun _ _ h => h) h2 fun _ _ h => h) (by omega) hd2 fun w4 g4 => ?_
  refine WS_run 1000 (by simp only [go_sem, eRun_exit, Nat.reduceAdd, Nat.reduceLT, Nat.reduceEqDiff, reduceIte, reduceCtorEq, Int.reduceLT, Int.reduceBEq, Int.reduceGE, Int.reduceEq, Int.reduceAdd, Nat.reduceLeDiff]; rfl) ?_
  refine WS_ret ⟨_, by simp only [go_sem, eRun_exit, Nat.reduceAdd, Nat.reduceLT, Nat.reduceEqDiff, reduceIte, reduceCtorEq, Int.reduceLT, Int.reduceBEq, Int.reduceGE, Int.reduceEq, Int.reduceAdd, Nat.reduceLeDiff, k_law8_SyntaxBlanks]; rfl, ?_⟩
  exact ⟨rfl, (g02.tr h2).tr g4⟩
end Go.Proofs.YtpbdojjfokelaaaDoor
set_option linter.unusedVariables false
namespace Go.AE
open Go.RowKit Go.ChangeShapes
variable [Globs]
omit [Globs] in
theorem capfit {n esz : Nat} {c : Cap} (h : CapOk n c) : CapFit esz n c := by
  cases c with
  | known k => exact h
  | upTo z => exact .inr h
omit [Globs] in
theorem ints_c {aw : AW} : ∀ {l : List Int} {xss : List (List V)}, All2 (fun n xs => xs = [V.int .i64 n] ∧ (Lit.int .i64 n).wf = true) l xss → xss.flatten = l.map fun k => V.int .i64 k
  | [], _, .nil => rfl
  | p :: l, _, .cons h1 h => by
    rw [List.flatten_cons, ints_c (aw := aw) h, h1.1]; rfl
theorem ints_rd {aw : AW} {l : List Int} {x : V} (h : SliceR (fun _ n xs => xs = [V.int .i64 n] ∧ (Lit.int .i64 n).wf = true) aw l [x]) : Rd (fun b => b < aw.next) aw x 1 l.length (l.map fun k => V.int .i64 k) := by
  rcases h with ⟨h1, rfl⟩ | ⟨b, c, xss, h1, hb, hg, ha, hl, hc⟩
  · cases h1; exact .nil
  · cases h1
    have g1 := ints_c (aw := aw) ha
    have hz : (l.map fun k => V.int .i64 k).length = l.length := List.length_map ..
    rw [g1] at hg
    exact .blk hb hb hg (.inr (.inr (.inl rfl))) (by omega) (by rw [List.drop_zero, Nat.mul_one, List.take_of_length_le (by omega)]) (capfit hc)
end Go.AE
namespace Go
variable {H : Type} {enc : TypeId × Value → H}
theorem returns_and_shaped {a : Assume} {C : Checked} {os : Os} {f : FuncId} {fn : Func} {s : ChangeSpec} {conds : List PathCond} {apart fresh handsOn again : Bool} {X : World → Array Value → Prop}
    (hX : ∀ (w w' : World) (args : Array Value), w.heap = w'.heap → X w args → X w' args)
    (own : ownKnob C.prog.godebug = none) (started : os.Started) (noInit : C.prog.inits.idxOf? f = none) (hfn : C.prog.funcs[f]? = some fn)
    (witness : ∃ (w : World) (tape : Tape) (i : Input), w.os = os ∧ (w.forCall tape i).Shaped C.prog ∧ i.vars = [] ∧ Input.okWide C.prog (w.forCall tape i) .any w.heap.size f i ∧
      ((s.pre enc C.prog fn conds apart (w.forCall tape i).memory i.args ∧ X (w.forCall tape i).memory i.args) ∧ sizedMet enc C.prog fn (OpenSpec.ofChange s) apart (w.forCall tape i).memory i.args) ∧ a.holds C.prog (lone (Frame.enter C.prog f i.args .normal) [] (w.forCall tape i)))
    (contract : ∀ (W : World) (base : Nat) (args : Array Value) (ds gs : List (DataW H)) (before : List MemPlace),
      (∀ (j : Nat) t v, fn.params[j]? = some t → args[j]? = some v → Value.okWide C.prog W .any base t v) →
      DataW.Whole enc C.prog fn.params.toList s.vars apart W args.toList ds gs before →
      conds.all (PathCond.test C.prog ⟨fn.params.toList, ds, s.plain.varTypes C.prog, gs⟩) = true →
      (DataW.weightsEach C.prog (fn.params.toList ++ s.plain.varTypes C.prog) (ds ++ gs)).all (· ≤ reachBytes) = true → X W args →
      W.ShapedOpen C.prog →
      a.holds C.prog (lone (Frame.enter C.prog f args .normal) [] W) →
      Calls C.prog f args W fun e W' => ∃ v, e = .returned v ∧ s.post enc C.prog fn apart fresh handsOn again W args v W') :
    ReturnsInHanded a C os f .any (fun w args => (s.pre enc C.prog fn conds apart w args ∧ X w args) ∧ sizedMet enc C.prog fn (OpenSpec.ofChange s) apart w args) (s.post enc C.prog fn apart fresh handsOn again) := by
  refine returnsInHanded_of_calls own started noInit witness ?_
  intro w tape i _ hsh _ hok hpre hholds
  obtain ⟨_, _, _, fn', hfn', _, _, _, _, hval⟩ := hok
  have e : fn' = fn := Option.some.inj (hfn'.symm.trans hfn)
  subst e
  obtain ⟨⟨⟨ds, gs, before, hw, hc⟩, hx⟩, hz⟩ := hpre
  have hw' := DataW.Whole.of_heap (w' := w.forCall tape i) (by rfl) hw
  refine (contract (w.forCall tape i) w.heap.size i.args ds gs before hval hw' hc (hz.weights hw) (hX _ _ _ (by rfl) hx) hsh hholds).mono fun e W' ⟨v, he, hp⟩ => ?_
  subst he
  exact ChangeSpec.post_blind hp
end Go
