/- Relation: the order of rows; the search. -/
import Derived.Test.YtjidefnbancmfaaPRel
set_option linter.unusedVariables false
set_option linter.unusedSimpArgs false
namespace Go.Proofs.Ytjidefnbancmfaa
open Go.AE
variable {tab : Tab}
theorem cmpI_zero {a b : Int} : cmpI a b = 0 ↔ a = b := by
  unfold cmpI; split
  · constructor <;> intro h <;> omega
  · split
    · constructor <;> intro h <;> omega
    · constructor <;> intro h <;> omega
theorem cmpI_neg {a b : Int} : cmpI a b < 0 ↔ a < b := by
  unfold cmpI; split
  · constructor <;> intro h <;> omega
  · split
    · constructor <;> intro h <;> omega
    · constructor <;> intro h <;> omega
theorem cmpL_cons {a b : Int} {l m : List Int} : cmpL (a :: l) (b :: m) < 0 ↔ a < b ∨ (a = b ∧ cmpL l m < 0) := by
  simp only [cmpL]
  by_cases h : cmpI a b = 0
  · rw [if_pos h]
    have := cmpI_zero.1 h
    constructor
    · intro h'; exact .inr ⟨this, h'⟩
    · rintro (h' | h')
      · omega
      · exact h'.2
  · rw [if_neg h, cmpI_neg]
    constructor
    · exact .inl
    · rintro (h' | h')
      · exact h'
      · exact absurd (cmpI_zero.2 h'.1) h
theorem cmpL_trans : ∀ {a b c : List Int}, cmpL a b < 0 → cmpL b c < 0 → cmpL a c < 0
  | a, b, [], h1, h2 => by cases b <;> simp [cmpL] at h2
  | [], b, _ :: _, h1, h2 => by simp [cmpL]
  | x :: a, [], _ :: _, h1, h2 => by simp [cmpL] at h1
  | x :: a, y :: b, z :: c, h1, h2 => by
    rw [cmpL_cons] at h1 h2 ⊢
    rcases h1 with h1 | ⟨h1, h1'⟩ <;> rcases h2 with h2 | ⟨h2, h2'⟩
    · left; omega
    · left; omega
    · left; omega
    · right; exact ⟨by omega, cmpL_trans h1' h2'⟩
theorem cmpL_zero : ∀ {a b : List Int}, cmpL a b = 0 ↔ a = b
  | [], [] => by simp [cmpL]
  | [], _ :: _ => by simp [cmpL]
  | _ :: _, [] => by simp [cmpL]
  | x :: a, y :: b => by
    simp only [cmpL]
    by_cases h : cmpI x y = 0
    · rw [if_pos h, cmpL_zero]
      have := cmpI_zero.1 h
      subst this; simp
    · rw [if_neg h]
      have : x ≠ y := fun e => h (cmpI_zero.2 e)
      simp [h, this]
theorem cmpL_total : ∀ {a b : List Int}, cmpL a b < 0 ∨ a = b ∨ cmpL b a < 0
  | [], [] => by simp
  | [], _ :: _ => by simp [cmpL]
  | _ :: _, [] => by simp [cmpL]
  | x :: a, y :: b => by
    rw [cmpL_cons, cmpL_cons]
    rcases cmpL_total (a := a) (b := b) with h | h | h
    · by_cases e : x = y
      · exact .inl (.inr ⟨e, h⟩)
      · by_cases e2 : x < y
        · exact .inl (.inl e2)
        · exact .inr (.inr (.inl (by omega)))
    · by_cases e : x = y
      · exact .inr (.inl (by rw [e, h]))
      · by_cases e2 : x < y
        · exact .inl (.inl e2)
        · exact .inr (.inr (.inl (by omega)))
    · by_cases e : x = y
      · exact .inr (.inr (.inr ⟨e.symm, h⟩))
      · by_cases e2 : x < y
        · exact .inl (.inl e2)
        · exact .inr (.inr (.inl (by omega)))
theorem cmpL_self {a : List Int} : ¬ cmpL a a < 0 := by rw [cmpL_zero.2 rfl]; omega
/-- rising. -/
abbrev Rise (rows : List (List Int)) : Prop := rows.Pairwise fun a b => cmpL a b < 0
/-- where a row stands, or would. -/
def posn (rows : List (List Int)) (r : List Int) : Nat := (rows.takeWhile fun x => decide (cmpL x r < 0)).length
theorem posn_le (rows : List (List Int)) (r : List Int) : posn rows r ≤ rows.length := (List.takeWhile_sublist _).length_le
theorem posn_of : ∀ {rows : List (List Int)} {r : List Int} {i : Nat}, i ≤ rows.length → (∀ (j : Nat) x, j < i → rows[j]? = some x → cmpL x r < 0) → (∀ x, rows[i]? = some x → ¬ cmpL x r < 0) → posn rows r = i
  | [], r, i, hi, h1, h2 => by simp [posn]; simp at hi; omega
  | x :: rows, r, 0, hi, h1, h2 => by
    have := h2 x rfl
    simp [posn, this]
  | x :: rows, r, i + 1, hi, h1, h2 => by
    have hx := h1 0 x (by omega) rfl
    have := posn_of (rows := rows) (r := r) (i := i) (by simpa using hi) (fun j y hj hy => h1 (j + 1) y (by omega) (by simpa using hy)) (fun y hy => h2 y (by simpa using hy))
    simp only [posn, List.takeWhile_cons, hx, decide_true, if_true, List.length_cons] at this ⊢
    rw [this]
theorem mem_posn {rows : List (List Int)} (hr : Rise rows) {r : List Int} {i : Nat} (hi : i ≤ rows.length) (h1 : ∀ (j : Nat) x, j < i → rows[j]? = some x → cmpL x r < 0) (h2 : ∀ x, rows[i]? = some x → ¬ cmpL x r < 0) : (r ∈ rows) ↔ rows[i]? = some r := by
  constructor
  · intro hm
    obtain ⟨k, hk, e⟩ := List.mem_iff_getElem.1 hm
    have e' : rows[k]? = some r := by rw [List.getElem?_eq_getElem hk, e]
    have a1 : ¬ k < i := fun hlt => cmpL_self (h1 k r hlt e')
    rcases Nat.lt_or_ge i k with a2 | a2
    · have hi' : i < rows.length := by omega
      have := List.pairwise_iff_getElem.1 hr i k hi' hk a2
      rw [e] at this
      exact absurd this (h2 _ (List.getElem?_eq_getElem hi'))
    · have : k = i := by omega
      rw [← this]; exact e'
  · intro h; exact List.mem_of_getElem? h
def RowsV (T : Nat → Prop) (w : AW) (cs : List V) (rows : List (List Int)) : Prop := cs.length = rows.length ∧ ∀ (i : Nat) v l, cs[i]? = some v → rows[i]? = some l → RowV T w v l
theorem RowsV.mono {T T' : Nat → Prop} {w : AW} {cs : List V} {rows : List (List Int)} (h : RowsV T w cs rows) (hs : ∀ x, T x → T' x) : RowsV T' w cs rows := ⟨h.1, fun i v l h1 h2 => (h.2 i v l h1 h2).mono hs⟩
theorem RowsV.frm {T S : Nat → Prop} {w w' : AW} {cs : List V} {rows : List (List Int)} (h : RowsV T w cs rows) (hf : Frm S w w') (hd : ∀ x, T x → ¬ S x) : RowsV T w' cs rows := ⟨h.1, fun i v l h1 h2 => (h.2 i v l h1 h2).frm hf hd⟩
theorem RowsV.at {T : Nat → Prop} {w : AW} {cs : List V} {rows : List (List Int)} (h : RowsV T w cs rows) {i : Nat} {l : List Int} (hi : rows[i]? = some l) : ∃ v, cs[i]? = some v ∧ RowV T w v l := by
  have hlt : i < cs.length := by rw [h.1]; exact (List.getElem?_eq_some_iff.1 hi).1
  exact ⟨cs[i], List.getElem?_eq_getElem hlt, h.2 i _ _ (List.getElem?_eq_getElem hlt) hi⟩
theorem wrap_u64 {n : Nat} (h : n < 18446744073709551616) : IntKind.wrap .u64 (Int.ofNat n) = Int.ofNat n := by
  have e : Int.ofNat n = (n : Int) := rfl
  have h1 : IntKind.wrap .u64 (Int.ofNat n) = (Int.ofNat n) % 18446744073709551616 := by simp [IntKind.wrap, IntKind.bits, IntKind.signed]
  rw [h1, e]; omega
theorem shr_one {n : Nat} : shiftI .shr .u64 (Int.ofNat n) 1 = some (.int .u64 (Int.ofNat (n / 2))) := by
  have e : (Int.ofNat n).fdiv (2 ^ (min (1 : Int).toNat (IntKind.bits .u64))) = Int.ofNat (n / 2) := by
    show Int.fdiv (n : Int) 2 = ((n / 2 : Nat) : Int)
    rw [Int.fdiv_eq_ediv_of_nonneg _ (by omega)]; omega
  simp only [shiftI, e]
  rfl
def BinI (n : Nat) (rows : List (List Int)) (lv rv : V) (r : List Int) (aw : AW) (q : Nat) (f : Fr) (w : AW) : Prop :=
  ∃ i j, f.get 0 = some lv ∧ f.get 1 = some rv ∧ f.get 2 = some (.func (.func 73) [] []) ∧ f.get 8 = some (.int .i64 (Int.ofNat n)) ∧ f.get 9 = some (.int .i64 (Int.ofNat i)) ∧ f.get 10 = some (.int .i64 (Int.ofNat j)) ∧ w = aw ∧ i ≤ j ∧ j ≤ n ∧ q = j - i ∧
    (∀ (k : Nat) x, k < i → rows[k]? = some x → cmpL x r < 0) ∧ (∀ (k : Nat) x, j ≤ k → rows[k]? = some x → ¬ cmpL x r < 0)
theorem search_ok (C : Codes tab) {S T U : Nat → Prop} {lv rv : V} {cs : List V} {rows : List (List Int)} {r : List Int} {aw : AW} {K : V → AW → Prop} (hb : Buf S aw lv 1 rows.length cs) (hv : RowsV T aw cs rows) (hr : RowV U aw rv r) (hrise : Rise rows)
    (hn : rows.length ≤ 1000000) (hlen : ∀ x ∈ rows, x.length ≤ 1000) (hlr : r.length ≤ 1000) (h : K (.tuple [.int .i64 (Int.ofNat (posn rows r)), .bool (decide (r ∈ rows))]) aw) : WF tab 72 [lv, rv, .func (.func 73) [] []] aw K := by
  refine WF_of C.c72 rfl ?_
  rcases hb.inv with ⟨rfl, h0, hc⟩ | ⟨b, rfl, _, _⟩
  · have : rows = [] := List.length_eq_zero_iff.1 h0
    subst this
    refine WS_run 1000 (by simp only [go_sem, Nat.reduceAdd, Nat.reduceLT, Nat.reduceEqDiff, reduceIte, reduceCtorEq, Int.reduceBEq, Int.reduceBNe, Int.reduceLT, Int.reduceLE, Int.reduceGT, Int.reduceGE, Int.reduceEq, Int.reduceAdd, Int.reduceSub, Int.reduceMul, Nat.reduceMul, Nat.reduceSub, Nat.reduceLeDiff, k72]; rfl) ?_
    refine WS_loop1 ?_
    refine WS_run 1000 (by simp only [go_sem, Nat.reduceAdd, Nat.reduceLT, Nat.reduceEqDiff, reduceIte, reduceCtorEq, Int.reduceBEq, Int.reduceBNe, Int.reduceLT, Int.reduceLE, Int.reduceGT, Int.reduceGE, Int.reduceEq, Int.reduceAdd, Int.reduceSub, Int.reduceMul, Nat.reduceMul, Nat.reduceSub, Nat.reduceLeDiff, k72_1]; rfl) ?_
    refine WS_ret ⟨_, by simp only [go_sem, Nat.reduceAdd, Nat.reduceLT, Nat.reduceEqDiff, reduceIte, reduceCtorEq, Int.reduceBEq, Int.reduceBNe, Int.reduceLT, Int.reduceLE, Int.reduceGT, Int.reduceGE, Int.reduceEq, Int.reduceAdd, Int.reduceSub, Int.reduceMul, Nat.reduceMul, Nat.reduceSub, Nat.reduceLeDiff, k72]; rfl, ?_⟩
    have e : posn [] r = 0 := rfl
    have e2 : decide (r ∈ ([] : List (List Int))) = false := by simp
    rw [e, e2] at h
    exact h
  refine WS_run 1000 (by simp only [go_sem, Nat.reduceAdd, Nat.reduceLT, Nat.reduceEqDiff, reduceIte, reduceCtorEq, Int.reduceBEq, Int.reduceBNe, Int.reduceLT, Int.reduceLE, Int.reduceGT, Int.reduceGE, Int.reduceEq, Int.reduceAdd, Int.reduceSub, Int.reduceMul, Nat.reduceMul, Nat.reduceSub, Nat.reduceLeDiff, k72]; rfl) ?_
  refine WS_loop (BinI rows.length rows (.slice b 0 rows.length (.upTo 1)) rv r aw) ?_ rows.length ⟨0, rows.length, (by simp only [go_sem, Nat.reduceAdd, Nat.reduceLT, Nat.reduceEqDiff, reduceIte, reduceCtorEq, Int.reduceBEq, Int.reduceBNe, Int.reduceLT, Int.reduceLE, Int.reduceGT, Int.reduceGE, Int.reduceEq, Int.reduceAdd, Int.reduceSub, Int.reduceMul, Nat.reduceMul, Nat.reduceSub, Nat.reduceLeDiff] <;> rfl), (by simp only [go_sem, Nat.reduceAdd, Nat.reduceLT, Nat.reduceEqDiff, reduceIte, reduceCtorEq, Int.reduceBEq, Int.reduceBNe, Int.reduceLT, Int.reduceLE, Int.reduceGT, Int.reduceGE, Int.reduceEq, Int.reduceAdd, Int.reduceSub, Int.reduceMul, Nat.reduceMul, Nat.reduceSub, Nat.reduceLeDiff] <;> rfl), (by simp only [go_sem, Nat.reduceAdd, Nat.reduceLT, Nat.reduceEqDiff, reduceIte, reduceCtorEq, Int.reduceBEq, Int.reduceBNe, Int.reduceLT, Int.reduceLE, Int.reduceGT, Int.reduceGE, Int.reduceEq, Int.reduceAdd, Int.reduceSub, Int.reduceMul, Nat.reduceMul, Nat.reduceSub, Nat.reduceLeDiff] <;> rfl), (by simp only [go_sem, Nat.reduceAdd, Nat.reduceLT, Nat.reduceEqDiff, reduceIte, reduceCtorEq, Int.reduceBEq, Int.reduceBNe, Int.reduceLT, Int.reduceLE, Int.reduceGT, Int.reduceGE, Int.reduceEq, Int.reduceAdd, Int.reduceSub, Int.reduceMul, Nat.reduceMul, Nat.reduceSub, Nat.reduceLeDiff] <;> rfl), (by simp only [go_sem, Nat.reduceAdd, Nat.reduceLT, Nat.reduceEqDiff, reduceIte, reduceCtorEq, Int.reduceBEq, Int.reduceBNe, Int.reduceLT, Int.reduceLE, Int.reduceGT, Int.reduceGE, Int.reduceEq, Int.reduceAdd, Int.reduceSub, Int.reduceMul, Nat.reduceMul, Nat.reduceSub, Nat.reduceLeDiff] <;> rfl), (by simp only [go_sem, Nat.reduceAdd, Nat.reduceLT, Nat.reduceEqDiff, reduceIte, reduceCtorEq, Int.reduceBEq, Int.reduceBNe, Int.reduceLT, Int.reduceLE, Int.reduceGT, Int.reduceGE, Int.reduceEq, Int.reduceAdd, Int.reduceSub, Int.reduceMul, Nat.reduceMul, Nat.reduceSub, Nat.reduceLeDiff] <;> rfl), rfl, by omega, by omega, by omega, ?_, ?_⟩
  · rintro q f w ⟨i, j, f0, f1, f2, f8, f9, f10, rfl, hij, hjn, rfl, hl, hg⟩ ih
    by_cases hlt : i < j
    · have w1 : IntKind.wrap .i64 (Int.ofNat i + Int.ofNat j) = Int.ofNat (i + j) := wrap_add (by omega)
      have w2 : IntKind.wrap .u64 (Int.ofNat (i + j)) = Int.ofNat (i + j) := wrap_u64 (by omega)
      have w3 : IntKind.wrap .i64 (Int.ofNat ((i + j) / 2)) = Int.ofNat ((i + j) / 2) := wrap_id (by have : Int.ofNat ((i + j) / 2) = (((i + j) / 2 : Nat) : Int) := rfl; omega) (by have : Int.ofNat ((i + j) / 2) = (((i + j) / 2 : Nat) : Int) := rfl; omega)
      have hh : (i + j) / 2 < rows.length := by omega
      have g1 : rows[(i + j) / 2]? = some rows[(i + j) / 2] := List.getElem?_eq_getElem hh
      obtain ⟨v, g2, g3⟩ := hv.at g1
      have e1 := hb.load1 g2
      refine WS_run 1000 (by simp only [go_sem, Nat.reduceAdd, Nat.reduceLT, Nat.reduceEqDiff, reduceIte, reduceCtorEq, Int.reduceBEq, Int.reduceBNe, Int.reduceLT, Int.reduceLE, Int.reduceGT, Int.reduceGE, Int.reduceEq, Int.reduceAdd, Int.reduceSub, Int.reduceMul, Nat.reduceMul, Nat.reduceSub, Nat.reduceLeDiff, k72_1, k72_0, f0, f1, f2, f8, f9, f10, hlt, w1, w2, w3, shr_one, hh, e1]; rfl) ?_
      refine WS_call (by simp only [go_sem, Nat.reduceAdd, Nat.reduceLT, Nat.reduceEqDiff, reduceIte, reduceCtorEq, Int.reduceBEq, Int.reduceBNe, Int.reduceLT, Int.reduceLE, Int.reduceGT, Int.reduceGE, Int.reduceEq, Int.reduceAdd, Int.reduceSub, Int.reduceMul, Nat.reduceMul, Nat.reduceSub, Nat.reduceLeDiff]) (by simp only [go_sem, Nat.reduceAdd, Nat.reduceLT, Nat.reduceEqDiff, reduceIte, reduceCtorEq, Int.reduceBEq, Int.reduceBNe, Int.reduceLT, Int.reduceLE, Int.reduceGT, Int.reduceGE, Int.reduceEq, Int.reduceAdd, Int.reduceSub, Int.reduceMul, Nat.reduceMul, Nat.reduceSub, Nat.reduceLeDiff]; rfl) ?_
      refine find1_ok C g3 hr (hlen _ (List.mem_of_getElem? g1)) hlr ?_
      by_cases hc : cmpL rows[(i + j) / 2] r < 0
      · have w4 : IntKind.wrap .i64 (Int.ofNat ((i + j) / 2) + 1) = Int.ofNat ((i + j) / 2 + 1) := wrap_succ (by omega)
        refine WS_run 1000 (by simp only [go_sem, Nat.reduceAdd, Nat.reduceLT, Nat.reduceEqDiff, reduceIte, reduceCtorEq, Int.reduceBEq, Int.reduceBNe, Int.reduceLT, Int.reduceLE, Int.reduceGT, Int.reduceGE, Int.reduceEq, Int.reduceAdd, Int.reduceSub, Int.reduceMul, Nat.reduceMul, Nat.reduceSub, Nat.reduceLeDiff, hc, w4]; rfl) ?_
        refine ih (j - ((i + j) / 2 + 1)) _ _ (by omega) ⟨(i + j) / 2 + 1, j, (by simp only [go_sem, Nat.reduceAdd, Nat.reduceLT, Nat.reduceEqDiff, reduceIte, reduceCtorEq, Int.reduceBEq, Int.reduceBNe, Int.reduceLT, Int.reduceLE, Int.reduceGT, Int.reduceGE, Int.reduceEq, Int.reduceAdd, Int.reduceSub, Int.reduceMul, Nat.reduceMul, Nat.reduceSub, Nat.reduceLeDiff, f0] <;> rfl), (by simp only [go_sem, Nat.reduceAdd, Nat.reduceLT, Nat.reduceEqDiff, reduceIte, reduceCtorEq, Int.reduceBEq, Int.reduceBNe, Int.reduceLT, Int.reduceLE, Int.reduceGT, Int.reduceGE, Int.reduceEq, Int.reduceAdd, Int.reduceSub, Int.reduceMul, Nat.reduceMul, Nat.reduceSub, Nat.reduceLeDiff, f1] <;> rfl), (by simp only [go_sem, Nat.reduceAdd, Nat.reduceLT, Nat.reduceEqDiff, reduceIte, reduceCtorEq, Int.reduceBEq, Int.reduceBNe, Int.reduceLT, Int.reduceLE, Int.reduceGT, Int.reduceGE, Int.reduceEq, Int.reduceAdd, Int.reduceSub, Int.reduceMul, Nat.reduceMul, Nat.reduceSub, Nat.reduceLeDiff, f2] <;> rfl), (by simp only [go_sem, Nat.reduceAdd, Nat.reduceLT, Nat.reduceEqDiff, reduceIte, reduceCtorEq, Int.reduceBEq, Int.reduceBNe, Int.reduceLT, Int.reduceLE, Int.reduceGT, Int.reduceGE, Int.reduceEq, Int.reduceAdd, Int.reduceSub, Int.reduceMul, Nat.reduceMul, Nat.reduceSub, Nat.reduceLeDiff, f8] <;> rfl), (by simp only [go_sem, Nat.reduceAdd, Nat.reduceLT, Nat.reduceEqDiff, reduceIte, reduceCtorEq, Int.reduceBEq, Int.reduceBNe, Int.reduceLT, Int.reduceLE, Int.reduceGT, Int.reduceGE, Int.reduceEq, Int.reduceAdd, Int.reduceSub, Int.reduceMul, Nat.reduceMul, Nat.reduceSub, Nat.reduceLeDiff] <;> rfl), (by simp only [go_sem, Nat.reduceAdd, Nat.reduceLT, Nat.reduceEqDiff, reduceIte, reduceCtorEq, Int.reduceBEq, Int.reduceBNe, Int.reduceLT, Int.reduceLE, Int.reduceGT, Int.reduceGE, Int.reduceEq, Int.reduceAdd, Int.reduceSub, Int.reduceMul, Nat.reduceMul, Nat.reduceSub, Nat.reduceLeDiff, f10] <;> rfl), rfl, by omega, hjn, rfl, ?_, hg⟩
        intro k x hk hx
        by_cases hki : k < i
        · exact hl k x hki hx
        · by_cases hke : k = (i + j) / 2
          · subst hke; rw [g1] at hx; cases hx; exact hc
          · have hkl := (List.getElem?_eq_some_iff.1 hx).1
            have := List.pairwise_iff_getElem.1 hrise k _ hkl hh (by omega)
            rw [List.getElem?_eq_getElem hkl] at hx
            cases hx
            exact cmpL_trans this hc
      · refine WS_run 1000 (by simp only [go_sem, Nat.reduceAdd, Nat.reduceLT, Nat.reduceEqDiff, reduceIte, reduceCtorEq, Int.reduceBEq, Int.reduceBNe, Int.reduceLT, Int.reduceLE, Int.reduceGT, Int.reduceGE, Int.reduceEq, Int.reduceAdd, Int.reduceSub, Int.reduceMul, Nat.reduceMul, Nat.reduceSub, Nat.reduceLeDiff, hc]; rfl) ?_
        refine ih ((i + j) / 2 - i) _ _ (by omega) ⟨i, (i + j) / 2, (by simp only [go_sem, Nat.reduceAdd, Nat.reduceLT, Nat.reduceEqDiff, reduceIte, reduceCtorEq, Int.reduceBEq, Int.reduceBNe, Int.reduceLT, Int.reduceLE, Int.reduceGT, Int.reduceGE, Int.reduceEq, Int.reduceAdd, Int.reduceSub, Int.reduceMul, Nat.reduceMul, Nat.reduceSub, Nat.reduceLeDiff, f0] <;> rfl), (by simp only [go_sem, Nat.reduceAdd, Nat.reduceLT, Nat.reduceEqDiff, reduceIte, reduceCtorEq, Int.reduceBEq, Int.reduceBNe, Int.reduceLT, Int.reduceLE, Int.reduceGT, Int.reduceGE, Int.reduceEq, Int.reduceAdd, Int.reduceSub, Int.reduceMul, Nat.reduceMul, Nat.reduceSub, Nat.reduceLeDiff, f1] <;> rfl), (by simp only [go_sem, Nat.reduceAdd, Nat.reduceLT, Nat.reduceEqDiff, reduceIte, reduceCtorEq, Int.reduceBEq, Int.reduceBNe, Int.reduceLT, Int.reduceLE, Int.reduceGT, Int.reduceGE, Int.reduceEq, Int.reduceAdd, Int.reduceSub, Int.reduceMul, Nat.reduceMul, Nat.reduceSub, Nat.reduceLeDiff, f2] <;> rfl), (by simp only [go_sem, Nat.reduceAdd, Nat.reduceLT, Nat.reduceEqDiff, reduceIte, reduceCtorEq, Int.reduceBEq, Int.reduceBNe, Int.reduceLT, Int.reduceLE, Int.reduceGT, Int.reduceGE, Int.reduceEq, Int.reduceAdd, Int.reduceSub, Int.reduceMul, Nat.reduceMul, Nat.reduceSub, Nat.reduceLeDiff, f8] <;> rfl), (by simp only [go_sem, Nat.reduceAdd, Nat.reduceLT, Nat.reduceEqDiff, reduceIte, reduceCtorEq, Int.reduceBEq, Int.reduceBNe, Int.reduceLT, Int.reduceLE, Int.reduceGT, Int.reduceGE, Int.reduceEq, Int.reduceAdd, Int.reduceSub, Int.reduceMul, Nat.reduceMul, Nat.reduceSub, Nat.reduceLeDiff, f9] <;> rfl), (by simp only [go_sem, Nat.reduceAdd, Nat.reduceLT, Nat.reduceEqDiff, reduceIte, reduceCtorEq, Int.reduceBEq, Int.reduceBNe, Int.reduceLT, Int.reduceLE, Int.reduceGT, Int.reduceGE, Int.reduceEq, Int.reduceAdd, Int.reduceSub, Int.reduceMul, Nat.reduceMul, Nat.reduceSub, Nat.reduceLeDiff] <;> rfl), rfl, by omega, by omega, rfl, hl, ?_⟩
        intro k x hk hx
        by_cases hke : k = (i + j) / 2
        · subst hke; rw [g1] at hx; cases hx; exact hc
        · have hkl := (List.getElem?_eq_some_iff.1 hx).1
          have := List.pairwise_iff_getElem.1 hrise _ k hh hkl (by omega)
          rw [List.getElem?_eq_getElem hkl] at hx
          cases hx
          exact fun hx => hc (cmpL_trans this hx)
    · have : i = j := by omega
      subst this
      have hp : posn rows r = i := posn_of hjn hl (fun x hx => hg i x (Nat.le_refl _) hx)
      have hm := mem_posn hrise hjn hl (fun x hx => hg i x (Nat.le_refl _) hx)
      rw [hp] at h
      by_cases hin : i < rows.length
      · have g1 : rows[i]? = some rows[i] := List.getElem?_eq_getElem hin
        obtain ⟨v, g2, g3⟩ := hv.at g1
        have e1 := hb.load1 g2
        refine WS_run 1000 (by simp only [go_sem, Nat.reduceAdd, Nat.reduceLT, Nat.reduceEqDiff, reduceIte, reduceCtorEq, Int.reduceBEq, Int.reduceBNe, Int.reduceLT, Int.reduceLE, Int.reduceGT, Int.reduceGE, Int.reduceEq, Int.reduceAdd, Int.reduceSub, Int.reduceMul, Nat.reduceMul, Nat.reduceSub, Nat.reduceLeDiff, k72_1, f0, f1, f2, f8, f9, f10, hlt, hin, e1]; rfl) ?_
        refine WS_call (by simp only [go_sem, Nat.reduceAdd, Nat.reduceLT, Nat.reduceEqDiff, reduceIte, reduceCtorEq, Int.reduceBEq, Int.reduceBNe, Int.reduceLT, Int.reduceLE, Int.reduceGT, Int.reduceGE, Int.reduceEq, Int.reduceAdd, Int.reduceSub, Int.reduceMul, Nat.reduceMul, Nat.reduceSub, Nat.reduceLeDiff]) (by simp only [go_sem, Nat.reduceAdd, Nat.reduceLT, Nat.reduceEqDiff, reduceIte, reduceCtorEq, Int.reduceBEq, Int.reduceBNe, Int.reduceLT, Int.reduceLE, Int.reduceGT, Int.reduceGE, Int.reduceEq, Int.reduceAdd, Int.reduceSub, Int.reduceMul, Nat.reduceMul, Nat.reduceSub, Nat.reduceLeDiff]; rfl) ?_
        refine find1_ok C g3 hr (hlen _ (List.mem_of_getElem? g1)) hlr ?_
        have e3 : (cmpL rows[i] r == 0) = decide (r ∈ rows) := by
          rw [show (cmpL rows[i] r == 0) = decide (cmpL rows[i] r = 0) from rfl]
          congr 1
          rw [cmpL_zero, hm, g1]
          simp
        refine WS_run 1000 (by simp only [go_sem, Nat.reduceAdd, Nat.reduceLT, Nat.reduceEqDiff, reduceIte, reduceCtorEq, Int.reduceBEq, Int.reduceBNe, Int.reduceLT, Int.reduceLE, Int.reduceGT, Int.reduceGE, Int.reduceEq, Int.reduceAdd, Int.reduceSub, Int.reduceMul, Nat.reduceMul, Nat.reduceSub, Nat.reduceLeDiff, e3, f0, f1, f2, f8, f9, f10]; rfl) ?_
        refine WS_ret ⟨_, by simp only [go_sem, Nat.reduceAdd, Nat.reduceLT, Nat.reduceEqDiff, reduceIte, reduceCtorEq, Int.reduceBEq, Int.reduceBNe, Int.reduceLT, Int.reduceLE, Int.reduceGT, Int.reduceGE, Int.reduceEq, Int.reduceAdd, Int.reduceSub, Int.reduceMul, Nat.reduceMul, Nat.reduceSub, Nat.reduceLeDiff, k72]; rfl, ?_⟩
        exact h
      · have e3 : decide (r ∈ rows) = false := by
          rw [decide_eq_false_iff_not, hm, List.getElem?_eq_none (by omega)]; simp
        rw [e3] at h
        refine WS_run 1000 (by simp only [go_sem, Nat.reduceAdd, Nat.reduceLT, Nat.reduceEqDiff, reduceIte, reduceCtorEq, Int.reduceBEq, Int.reduceBNe, Int.reduceLT, Int.reduceLE, Int.reduceGT, Int.reduceGE, Int.reduceEq, Int.reduceAdd, Int.reduceSub, Int.reduceMul, Nat.reduceMul, Nat.reduceSub, Nat.reduceLeDiff, k72_1, f0, f1, f2, f8, f9, f10, hlt, hin]; rfl) ?_
        refine WS_ret ⟨_, by simp only [go_sem, Nat.reduceAdd, Nat.reduceLT, Nat.reduceEqDiff, reduceIte, reduceCtorEq, Int.reduceBEq, Int.reduceBNe, Int.reduceLT, Int.reduceLE, Int.reduceGT, Int.reduceGE, Int.reduceEq, Int.reduceAdd, Int.reduceSub, Int.reduceMul, Nat.reduceMul, Nat.reduceSub, Nat.reduceLeDiff, k72]; rfl, ?_⟩
        exact h
  · intro k x hk; omega
  · intro k x hk hx
    have := (List.getElem?_eq_some_iff.1 hx).1
    omega
end Go.Proofs.Ytjidefnbancmfaa
