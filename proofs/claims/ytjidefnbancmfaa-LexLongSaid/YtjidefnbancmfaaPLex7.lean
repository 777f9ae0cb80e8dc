/- A part of the proof. -/
import Derived.Test.YtjidefnbancmfaaPLex6
set_option linter.unusedVariables false
set_option linter.unusedSimpArgs false
namespace Go.AE
theorem over_set : ∀ (l : List V) (i : Nat) (v : V), i < l.length → over l i [v] = some (l.set i v)
  | [], i, v, h => by simp at h
  | x :: l, 0, v, h => by simp [over]
  | x :: l, i + 1, v, h => by simp only [over, over_set l i v (by simpa using h), List.set_cons_succ]
theorem store_own {w : AW} {b i : Nat} {l : List V} {v : V} (hx : w.heap.get b = some (.cells l .own)) (hi : i < l.length) (hv : v.one = true) : w.store b i [v] = some (w.turn b (.cells (l.set i v) .own)) := by
  simp only [AW.store, hx, AW.alive, allOne, hv, over_set l i v hi]
theorem Ext.turn {N : Nat} {w : AW} {b : Nat} {l : List V} (hN : N ≤ b) (hw : N ≤ w.next) : Ext N w (w.turn b (.cells l .own)) :=
  ⟨hw, Nat.le_refl _, fun c hc => T.get_put_ne (by omega), fun _ _ => rfl⟩
theorem Own.weaken {N M : Nat} {w : AW} {v : V} {esz n : Nat} {cs : List V} (h : Own N w v esz n cs) (hM : M ≤ N) : Own M w v esz n cs := by
  cases h with
  | nil => exact .nil
  | blk hN hb hx hl he hn hs =>
    refine .blk (Nat.le_trans hM hN) hb hx hl he hn ?_
    rcases hs with rfl | rfl | ⟨f, F, rfl, h1, h2⟩
    · exact .inl rfl
    · exact .inr (.inl rfl)
    · exact .inr (.inr ⟨f, F, rfl, Nat.le_trans hM h1, h2⟩)
end Go.AE
namespace Go.Proofs.Ytjidefnbancmfaa
open Go.AE Delphi
variable {tab : Tab}
theorem blk_blanks : ∀ m, blk false (List.replicate m 32) = m
  | 0 => rfl
  | m + 1 => by simp [List.replicate_succ, blk, isBlank, blk_blanks m]
theorem scan_blanks (m : Nat) : scan 0 (List.replicate m 32) = ([], true) := by
  rw [scan_eq, blk_blanks, List.drop_eq_nil_of_le (by simp)]
theorem takeWhile_rep {p : Nat → Bool} {x : Nat} (hx : p x = true) (k : Nat) : (List.replicate k x).takeWhile p = List.replicate k x := by
  induction k with
  | zero => rfl
  | succ k ih => rw [List.replicate_succ, List.takeWhile_cons_of_pos hx, ih]
/-- one of the three letters, so many times. -/
def letterKind (x : Nat) : Nat := if x = 97 then 1 else if x = 65 then 2 else 3
theorem lexWord_rep {x : Nat} (hx : x = 97 ∨ x = 65 ∨ x = 55) (k : Nat) : lexWord (List.replicate (k + 1) x) = (letterKind x, k + 1) := by
  rcases hx with rfl | rfl | rfl
  · show lexWord (97 :: List.replicate k 97) = _
    simp only [lexWord]
    rw [if_pos (by decide), ← List.replicate_succ, takeWhile_rep (by decide)]; simp [letterKind]
  · show lexWord (65 :: List.replicate k 65) = _
    simp only [lexWord]
    rw [if_neg (by decide), if_pos (by decide), ← List.replicate_succ, takeWhile_rep (by decide)]; simp [letterKind]
  · show lexWord (55 :: List.replicate k 55) = _
    simp only [lexWord]
    rw [if_neg (by decide), if_neg (by decide), if_pos (by decide)]
    have : numberLen (55 :: List.replicate k 55) = k + 1 := by
      have e : (55 :: List.replicate k 55).takeWhile isDigit = List.replicate (k + 1) 55 := by rw [← List.replicate_succ, takeWhile_rep (by decide)]
      simp [numberLen, e]
    rw [this]; simp [letterKind]
theorem scan_rep {x : Nat} (hx : x = 97 ∨ x = 65 ∨ x = 55) (k : Nat) : scan 0 (List.replicate (k + 1) x) = if 16 < k + 1 then ([], false) else ([⟨letterKind x, List.replicate (k + 1) x, 0⟩], true) := by
  have hb : blk false (List.replicate (k + 1) x) = 0 := blk_word _ (by rw [lexWord_rep hx]; simp)
  have h4 : letterKind x ≠ 4 := by rcases hx with rfl | rfl | rfl <;> decide
  rw [scan_eq, hb, List.drop_zero]
  have hl := lexWord_rep hx k
  rw [List.replicate_succ] at hl ⊢
  simp only [hl]
  by_cases h16 : 16 < k + 1
  · rw [if_pos (.inr ⟨h4, h16⟩), if_pos h16]
  · rw [if_neg (by intro hh; rcases hh with hh | hh; omega; exact h16 hh.2), if_neg h16]
    have e1 : (x :: List.replicate k x).drop (k + 1) = [] := List.drop_eq_nil_of_le (by simp)
    have e2 : (x :: List.replicate k x).take (k + 1) = x :: List.replicate k x := List.take_of_length_le (by simp)
    have hz : ∀ n, scan n ([] : List Nat) = ([], true) := fun n => by rw [scan_eq]; rfl
    rw [e1, e2, hz]
theorem bytesV_rep : ∀ m, bytesV (List.replicate m (.int .u8 32)) = some (List.replicate m 32)
  | 0 => rfl
  | m + 1 => by
    rw [List.replicate_succ, List.replicate_succ]
    show (match Nat.blt 32 256, bytesV (List.replicate m (.int .u8 32)) with | true, some r => some (32 :: r) | _, _ => none) = _
    rw [bytesV_rep m]; rfl
theorem flat_rep (m : Nat) (v : V) : (List.replicate m [v]).flatten = List.replicate m v := by
  induction m with
  | zero => rfl
  | succ m ih => rw [List.replicate_succ, List.flatten_cons, ih]; rfl
theorem rep_set (m i : Nat) (a b : V) (h : i < m) : (List.replicate i a ++ List.replicate (m - i) b).set i a = List.replicate (i + 1) a ++ List.replicate (m - (i + 1)) b := by
  have e : m - i = (m - (i + 1)) + 1 := by omega
  rw [List.set_append_right _ _ (by simp), List.length_replicate, Nat.sub_self, e, List.replicate_succ, List.set_cons_zero, List.replicate_succ' (n := i), List.append_assoc]
  rfl
theorem tmod3 (k : Int) : ∃ q : Nat, q < 3 ∧ IntKind.wrap .i64 (k.tmod 3 + 3) = k.tmod 3 + 3 ∧ (k.tmod 3 + 3).tmod 3 = Int.ofNat q := by
  have h1 : -3 < k.tmod 3 := by have := Int.lt_tmod_of_pos k (b := 3) (by decide); simpa using this
  have h2 : k.tmod 3 < 3 := Int.tmod_lt_of_pos k (by decide)
  refine ⟨((k.tmod 3 + 3).tmod 3).toNat, ?_, wrap_id (by omega) (by omega), ?_⟩
  · have h3 : (k.tmod 3 + 3).tmod 3 < 3 := Int.tmod_lt_of_pos _ (by decide)
    omega
  · have h4 : 0 ≤ (k.tmod 3 + 3).tmod 3 := Int.tmod_nonneg _ (by omega)
    show _ = (((k.tmod 3 + 3).tmod 3).toNat : Int)
    omega
def letters : List (List Nat) := [[97], [65], [55]]
theorem letters_load (w : AW) {q : Nat} (hq : q < 3) : ∃ x, (x = 97 ∨ x = 65 ∨ x = 55) ∧ letters[q]? = some [x] := by
  match q, hq with
  | 0, _ => exact ⟨97, .inl rfl, rfl⟩
  | 1, _ => exact ⟨65, .inr (.inl rfl), rfl⟩
  | 2, _ => exact ⟨55, .inr (.inr rfl), rfl⟩
end Go.Proofs.Ytjidefnbancmfaa
