/- Words of programs: what scanning comes to, in plain lists of bytes. -/

set_option linter.unusedVariables false
set_option linter.unusedSimpArgs false
namespace Delphi
def isSmall (c : Nat) : Bool := decide (97 ≤ c) && decide (c ≤ 122)
def isDigit (c : Nat) : Bool := decide (48 ≤ c) && decide (c ≤ 57)
def isGreat (c : Nat) : Bool := decide (65 ≤ c) && decide (c ≤ 90)
def isNamed (c : Nat) : Bool := isSmall c || (isDigit c || decide (c = 95))
def isVarC (c : Nat) : Bool := isNamed c || isGreat c
def isBlank (c : Nat) : Bool := decide (c = 32) || decide (c = 9) || decide (c = 10) || decide (c = 13)
/-- how many bytes say nothing: outside a note, or within one. -/
def blk : Bool → List Nat → Nat
  | _, [] => 0
  | true, c :: t => if c = 10 then blk false t + 1 else blk true t + 1
  | false, c :: t => if isBlank c then blk false t + 1 else if c = 37 then blk true t + 1 else 0
theorem blk_le : ∀ (b : Bool) (s : List Nat), blk b s ≤ s.length
  | _, [] => by simp [blk]
  | true, c :: t => by
    have h1 := blk_le false t; have h2 := blk_le true t
    simp only [blk, List.length_cons]; split <;> omega
  | false, c :: t => by
    have h1 := blk_le false t; have h2 := blk_le true t
    simp only [blk, List.length_cons]; (repeat' split) <;> omega
theorem blk_drop : ∀ (b : Bool) (s : List Nat), blk false (s.drop (blk b s)) = 0
  | b, [] => by simp [blk]
  | true, c :: t => by
    simp only [blk]; split
    · simpa using blk_drop false t
    · simpa using blk_drop true t
  | false, c :: t => by
    simp only [blk]
    split
    · simpa using blk_drop false t
    · rename_i h1
      split
      · simpa using blk_drop true t
      · rename_i h2; simp [blk, h1, h2]
def numberLen (s : List Nat) : Nat :=
  let n := if s.head? = some 45 then 1 else 0
  let d := ((s.drop n).takeWhile isDigit).length
  if d = 0 then 0 else if n = 1 ∧ s[1]? = some 48 then 0 else if s[n]? = some 48 then 1 else n + d
def signs : List (List Nat) := [[58, 45], [33, 61], [60, 61], [40], [41], [44], [46], [33], [61], [60]]
/-- the kind and length of the word at the beginning. -/
def lexWord (s : List Nat) : Nat × Nat :=
  match s with
  | [] => (0, 0)
  | c :: _ =>
    if isSmall c then (1, (s.takeWhile isNamed).length)
    else if isGreat c then (2, (s.takeWhile isVarC).length)
    else if isDigit c || decide (c = 45) then (3, numberLen s)
    else match signs.find? (fun g => g.isPrefixOf s) with
      | some g => (4, g.length)
      | none => (0, 0)
theorem numberLen_le (s : List Nat) : numberLen s ≤ s.length := by
  unfold numberLen
  have h1 : ∀ n, ((s.drop n).takeWhile isDigit).length ≤ s.length - n := fun n => by
    have := (List.takeWhile_prefix (p := isDigit) (l := s.drop n)).length_le
    simpa using this
  cases s with
  | nil => simp
  | cons c t =>
    by_cases hc : (c :: t).head? = some 45
    · have := h1 1
      simp only [hc, if_true] at this ⊢
      simp only [List.length_cons] at this ⊢
      (repeat' split) <;> omega
    · have := h1 0
      simp only [hc, if_false] at this ⊢
      simp only [List.length_cons] at this ⊢
      (repeat' split) <;> omega
theorem lexWord_le (s : List Nat) : (lexWord s).2 ≤ s.length := by
  cases s with
  | nil => simp [lexWord]
  | cons c t =>
    simp only [lexWord]
    split
    · exact (List.takeWhile_prefix _).length_le
    · split
      · exact (List.takeWhile_prefix _).length_le
      · split
        · exact numberLen_le _
        · split
          · rename_i g hg
            have := List.find?_some hg
            exact (List.isPrefixOf_iff_prefix.1 this).length_le
          · simp
structure Wd where
  kind : Nat
  text : List Nat
  at' : Nat
def scanP : Nat → Nat → List Nat → List Wd × Bool
  | 0, _, _ => ([], true)
  | n + 1, at', s =>
    let u := s.drop (blk false s)
    match u with
    | [] => ([], true)
    | _ :: _ =>
      if (lexWord u).2 = 0 ∨ ((lexWord u).1 ≠ 4 ∧ 16 < (lexWord u).2) then ([], false)
      else
        let r := scanP n (at' + blk false s + (lexWord u).2) (u.drop (lexWord u).2)
        (⟨(lexWord u).1, u.take (lexWord u).2, at' + blk false s⟩ :: r.1, r.2)
theorem scanP_more : ∀ (n m at' : Nat) (s : List Nat), s.length < n → s.length < m → scanP n at' s = scanP m at' s
  | 0, m, _, s, h, _ => by omega
  | n + 1, 0, _, s, _, h => by omega
  | n + 1, m + 1, at', s, h1, h2 => by
    simp only [scanP]
    split
    · rfl
    · rename_i c t hu
      split
      · rfl
      · rename_i hw
        have hlen : ((s.drop (blk false s)).drop (lexWord (s.drop (blk false s))).2).length < s.length := by
          have hb := blk_le false s
          have : (s.drop (blk false s)).length = s.length - blk false s := by simp
          have hpos : 0 < (s.drop (blk false s)).length := by rw [hu]; simp
          have : 0 < (lexWord (s.drop (blk false s))).2 := by omega
          simp only [List.length_drop] at *
          omega
        rw [scanP_more n m _ _ (by omega) (by omega)]
def scan (at' : Nat) (s : List Nat) : List Wd × Bool := scanP (s.length + 1) at' s
theorem scan_eq (at' : Nat) (s : List Nat) : scan at' s =
    match s.drop (blk false s) with
    | [] => ([], true)
    | c :: t =>
      if (lexWord (c :: t)).2 = 0 ∨ ((lexWord (c :: t)).1 ≠ 4 ∧ 16 < (lexWord (c :: t)).2) then ([], false)
      else
        let r := scan (at' + blk false s + (lexWord (c :: t)).2) ((c :: t).drop (lexWord (c :: t)).2)
        (⟨(lexWord (c :: t)).1, (c :: t).take (lexWord (c :: t)).2, at' + blk false s⟩ :: r.1, r.2) := by
  unfold scan
  conv => lhs; simp only [scanP]
  split
  · rfl
  · rename_i c t h
    rw [h]
    simp only []
    split
    · rfl
    · rename_i hw
      have hlen : ((c :: t).drop (lexWord (c :: t)).2).length < s.length := by
        have hb := blk_le false s
        have : (s.drop (blk false s)).length = s.length - blk false s := by simp
        rw [h] at this
        have hm : (lexWord (c :: t)).2 ≠ 0 := fun he => hw (.inl he)
        simp only [List.length_drop, List.length_cons] at this ⊢
        omega
      rw [scanP_more s.length _ _ _ hlen (Nat.lt_succ_self _)]
/-- what says nothing may be passed by. -/
theorem scan_skip (at' : Nat) (s : List Nat) (k : Nat) (h : blk false s = k + blk false (s.drop k)) : scan at' s = scan (at' + k) (s.drop k) := by
  rw [scan_eq at' s, scan_eq (at' + k) (s.drop k), List.drop_drop, h, Nat.add_assoc]
theorem scan_len : ∀ (n at' : Nat) (s : List Nat), s.length ≤ n → (scan at' s).1.length ≤ s.length
  | n, at', s, hn => by
    rw [scan_eq]
    split
    · simp
    · rename_i c t hd
      split
      · simp
      · rename_i hw
        have hb := blk_le false s
        have hlen : (c :: t).length = s.length - blk false s := by rw [← hd]; simp
        have hm : (lexWord (c :: t)).2 ≠ 0 := fun he => hw (.inl he)
        simp only [List.length_cons] at hlen ⊢
        have hl2 : ((c :: t).drop (lexWord (c :: t)).2).length < s.length := by simp only [List.length_drop, List.length_cons]; omega
        match n, hn with
        | 0, hn => omega
        | n + 1, hn =>
          have := scan_len n (at' + blk false s + (lexWord (c :: t)).2) ((c :: t).drop (lexWord (c :: t)).2) (by omega)
          omega
end Delphi
