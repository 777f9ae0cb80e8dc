/- A part of the proof: PVal8, PVal9, PVal10, VTab, VKit, VArg. -/
import Derived.Test.YtjidefnbancmfaaDoorVcG
import Derived.Test.YtjidefnbancmfaaDoorVcE
import Derived.Test.YtjidefnbancmfaaDoorVcF
import Derived.Lib.LaidTab
import Derived.Lib.AppendIntMem
import Derived.Shelf.Strconv.Itoa4
import GoSem.ClaimSeven
import Derived.HandedShaped
/- Constants: atoms printed. -/
set_option linter.unusedVariables false
set_option maxRecDepth 10000
set_option linter.unusedSimpArgs false
namespace Go.Proofs.YtjidefnbancmfaaDoor
open Go.AE Delphi
variable {tab : Tab}
def prT (t : Tk) : List Nat := if t.k = 3 then fmtI t.n else t.s
def qS : List Tk → List Nat
  | [] => []
  | t :: r => prT t ++ r.flatMap fun u => [44, 32] ++ prT u
theorem qS_snoc (l : List Tk) (t : Tk) (h : l ≠ []) : qS (l ++ [t]) = qS l ++ [44, 32] ++ prT t := by
  cases l with
  | nil => exact (h rfl).elim
  | cons x l => simp [qS, List.append_assoc]
def preS (name : List Nat) (l : List Tk) : List Nat := match l with | [] => name | l => name ++ [40] ++ qS l
def atomS (name : List Nat) (l : List Tk) : List Nat := match l with | [] => name | l => name ++ [40] ++ qS l ++ [41]
structure TkPr (t : Tk) : Prop where
  num : t.n.natAbs ≤ 2147483648
  len : (prT t).length ≤ 3000000000
theorem decN_len : ∀ (n m : Nat), m ≤ n → 1 ≤ m → (decN m).length ≤ m
  | 0, m, h1, h2 => by omega
  | n + 1, m, h1, h2 => by
    by_cases h : m < 10
    · rw [decN_small h]; simpa using h2
    · rw [decN_step h, List.length_append]
      have := decN_len n (m / 10) (by omega) (by omega)
      simp only [List.length_cons, List.length_nil]; omega
theorem tkPr {t : Tk} (h : tkMay t = true) (hl : t.s.length ≤ 1000000) : TkPr t := by
  refine ⟨okc_num h, ?_⟩
  have hn := okc_num h
  unfold prT
  split
  · cases ht : t.n with
    | ofNat m =>
      rw [ht] at hn
      have hn : m ≤ 2147483648 := hn
      show (decN m).length ≤ _
      by_cases h0 : m = 0
      · subst h0; rw [decN_small (by omega)]; simp
      · have := decN_len m m (by omega) (by omega); omega
    | negSucc m =>
      rw [ht] at hn
      have hn : m + 1 ≤ 2147483648 := hn
      show (45 :: decN (m + 1)).length ≤ _
      have := decN_len (m + 1) (m + 1) (by omega) (by omega)
      rw [List.length_cons]; omega
  · omega
theorem qS_len : ∀ (l : List Tk), (∀ t ∈ l, TkPr t) → (qS l).length ≤ l.length * 3000000002 := by
  have h : ∀ (l : List Tk), (∀ t ∈ l, TkPr t) → (l.flatMap fun u => [44, 32] ++ prT u).length ≤ l.length * 3000000002 := by
    intro l
    induction l with
    | nil => intro _; simp
    | cons x l ih =>
      intro h
      have h1 := (h x (by simp)).len
      have h2 := ih fun t ht => h t (by simp [ht])
      rw [List.flatMap_cons, List.length_append, List.length_append, List.length_cons, List.length_cons, List.length_cons, List.length_nil]; omega
  intro l hl
  cases l with
  | nil => simp [qS]
  | cons x l =>
    have h1 := (hl x (by simp)).len
    have h2 := h l fun t ht => hl t (by simp [ht])
    rw [qS, List.length_append, List.length_cons]; omega
def tksC (l : List Tk) : List V := l.flatMap tkC
theorem tks_at {T : Nat → Prop} {w : AW} {v : V} {l : List Tk} (h : Rd T w v 3 l.length (tksC l)) {i : Nat} {t : Tk} (hi : l[i]? = some t) : ∃ b o c, v = .slice b o l.length c ∧ T b ∧ b < w.next ∧ w.load b (o + i * 3) 3 = some (tkC t) := by
  have hlt : i < l.length := (List.getElem?_eq_some_iff.1 hi).1
  rcases h.inv with ⟨_, q2, _⟩ | ⟨b, o, c, rfl, hB⟩
  · omega
  · refine ⟨b, o, c, rfl, hB.own, hB.lt, ?_⟩
    rw [hB.load (i * 3) 3 (by omega)]
    have h2 := flat_part tkC_len (i := i) (j := 0) (k := 3) hi (by omega)
    rw [Nat.zero_add] at h2
    exact congrArg some h2
def AtI (aw : AW) (name : List Nat) (lv : V) (l : List Tk) (q : Nat) (f : Fr) (w : AW) : Prop :=
  ∃ i, f.get 0 = some (.str (preS name (l.take i))) ∧ f.get 1 = some lv ∧ f.get 7 = some lv ∧ f.get 8 = some (.int .i64 (Int.ofNat l.length)) ∧ f.get 9 = some (.int .i64 (Int.ofNat i)) ∧ i ≤ l.length ∧ q = l.length - i ∧ Frm (fun _ => False) aw w
theorem preS_len {name : List Nat} {l : List Tk} (hn : name.length ≤ 1000) (hl : l.length ≤ 1000) (h : ∀ t ∈ l, TkPr t) : (preS name l).length ≤ 4000000000000 := by
  cases l with
  | nil => show name.length ≤ _; omega
  | cons x l =>
    have h2 := qS_len (x :: l) h
    show (name ++ [40] ++ qS (x :: l)).length ≤ _
    rw [List.length_append, List.length_append]
    simp only [List.length_cons, List.length_nil] at h2 hl ⊢; omega
theorem atom_ok (C : Codes tab) (F : Formats tab) {T : Nat → Prop} {aw : AW} {name : List Nat} {lv : V} {l : List Tk} {K : V → AW → Prop} (hl : Rd T aw lv 3 l.length (tksC l)) (hn : l.length ≤ 1000) (hm : name.length ≤ 1000) (hp : ∀ t ∈ l, TkPr t)
    (h : ∀ w, Frm (fun _ => False) aw w → K (.str (atomS name l)) w) : WF tab n_value_Atom [.str name, lv] aw K := by
  refine WF_of C.c_value_Atom rfl ?_
  have hlv := hl.lenV
  refine WS_run 1000 (by simp only [go_sem, eRun_exit, Nat.reduceAdd, Nat.reduceLT, Nat.reduceEqDiff, reduceIte, reduceCtorEq, Int.reduceBEq, Int.reduceBNe, Int.reduceLT, Int.reduceLE, Int.reduceGT, Int.reduceGE, Int.reduceEq, Int.reduceAdd, Int.reduceSub, Int.reduceMul, Nat.reduceMul, Nat.reduceSub, Nat.reduceLeDiff, k_value_Atom, hlv]; rfl) ?_
  refine WS_loopJ (AtI aw name lv l) (AtI aw name lv l 0) ?_ ?_ l.length ⟨0, (by simp only [go_sem, eRun_exit, Nat.reduceAdd, Nat.reduceLT, Nat.reduceEqDiff, reduceIte, reduceCtorEq, Int.reduceBEq, Int.reduceBNe, Int.reduceLT, Int.reduceLE, Int.reduceGT, Int.reduceGE, Int.reduceEq, Int.reduceAdd, Int.reduceSub, Int.reduceMul, Nat.reduceMul, Nat.reduceSub, Nat.reduceLeDiff] <;> rfl), (by simp only [go_sem, eRun_exit, Nat.reduceAdd, Nat.reduceLT, Nat.reduceEqDiff, reduceIte, reduceCtorEq, Int.reduceBEq, Int.reduceBNe, Int.reduceLT, Int.reduceLE, Int.reduceGT, Int.reduceGE, Int.reduceEq, Int.reduceAdd, Int.reduceSub, Int.reduceMul, Nat.reduceMul, Nat.reduceSub, Nat.reduceLeDiff] <;> rfl), (by simp only [go_sem, eRun_exit, Nat.reduceAdd, Nat.reduceLT, Nat.reduceEqDiff, reduceIte, reduceCtorEq, Int.reduceBEq, Int.reduceBNe, Int.reduceLT, Int.reduceLE, Int.reduceGT, Int.reduceGE, Int.reduceEq, Int.reduceAdd, Int.reduceSub, Int.reduceMul, Nat.reduceMul, Nat.reduceSub, Nat.reduceLeDiff] <;> rfl), (by simp only [go_sem, eRun_exit, Nat.reduceAdd, Nat.reduceLT, Nat.reduceEqDiff, reduceIte, reduceCtorEq, Int.reduceBEq, Int.reduceBNe, Int.reduceLT, Int.reduceLE, Int.reduceGT, Int.reduceGE, Int.reduceEq, Int.reduceAdd, Int.reduceSub, Int.reduceMul, Nat.reduceMul, Nat.reduceSub, Nat.reduceLeDiff] <;> rfl), (by simp only [go_sem, eRun_exit, Nat.reduceAdd, Nat.reduceLT, Nat.reduceEqDiff, reduceIte, reduceCtorEq, Int.reduceBEq, Int.reduceBNe, Int.reduceLT, Int.reduceLE, Int.reduceGT, Int.reduceGE, Int.reduceEq, Int.reduceAdd, Int.reduceSub, Int.reduceMul, Nat.reduceMul, Nat.reduceSub, Nat.reduceLeDiff] <;> rfl), by omega, rfl, Frm.refl _⟩
  · rintro q f w ⟨i, f0, f1, f7, f8, f9, hi, rfl, hf⟩ ih exit
    by_cases hlt : i < l.length
    case neg =>
      refine WS_runB 1000 (by simp only [go_sem, Nat.reduceAdd, Nat.reduceLT, Nat.reduceEqDiff, reduceIte, reduceCtorEq, Int.reduceBEq, Int.reduceBNe, Int.reduceLT, Int.reduceLE, Int.reduceGT, Int.reduceGE, Int.reduceEq, Int.reduceAdd, Int.reduceSub, Int.reduceMul, Nat.reduceMul, Nat.reduceSub, Nat.reduceLeDiff, k_value_Atom_p1, f8, f9, hlt]; rfl) ?_
      exact exit _ _ _ ⟨i, (by simp only [go_sem, eRun_exit, Nat.reduceAdd, Nat.reduceLT, Nat.reduceEqDiff, reduceIte, reduceCtorEq, Int.reduceBEq, Int.reduceBNe, Int.reduceLT, Int.reduceLE, Int.reduceGT, Int.reduceGE, Int.reduceEq, Int.reduceAdd, Int.reduceSub, Int.reduceMul, Nat.reduceMul, Nat.reduceSub, Nat.reduceLeDiff, f0] <;> rfl), (by simp only [go_sem, eRun_exit, Nat.reduceAdd, Nat.reduceLT, Nat.reduceEqDiff, reduceIte, reduceCtorEq, Int.reduceBEq, Int.reduceBNe, Int.reduceLT, Int.reduceLE, Int.reduceGT, Int.reduceGE, Int.reduceEq, Int.reduceAdd, Int.reduceSub, Int.reduceMul, Nat.reduceMul, Nat.reduceSub, Nat.reduceLeDiff, f1] <;> rfl), (by simp only [go_sem, eRun_exit, Nat.reduceAdd, Nat.reduceLT, Nat.reduceEqDiff, reduceIte, reduceCtorEq, Int.reduceBEq, Int.reduceBNe, Int.reduceLT, Int.reduceLE, Int.reduceGT, Int.reduceGE, Int.reduceEq, Int.reduceAdd, Int.reduceSub, Int.reduceMul, Nat.reduceMul, Nat.reduceSub, Nat.reduceLeDiff, f7] <;> rfl), (by simp only [go_sem, eRun_exit, Nat.reduceAdd, Nat.reduceLT, Nat.reduceEqDiff, reduceIte, reduceCtorEq, Int.reduceBEq, Int.reduceBNe, Int.reduceLT, Int.reduceLE, Int.reduceGT, Int.reduceGE, Int.reduceEq, Int.reduceAdd, Int.reduceSub, Int.reduceMul, Nat.reduceMul, Nat.reduceSub, Nat.reduceLeDiff, f8] <;> rfl), (by simp only [go_sem, eRun_exit, Nat.reduceAdd, Nat.reduceLT, Nat.reduceEqDiff, reduceIte, reduceCtorEq, Int.reduceBEq, Int.reduceBNe, Int.reduceLT, Int.reduceLE, Int.reduceGT, Int.reduceGE, Int.reduceEq, Int.reduceAdd, Int.reduceSub, Int.reduceMul, Nat.reduceMul, Nat.reduceSub, Nat.reduceLeDiff, f9] <;> rfl), by omega, by omega, hf⟩ rfl
    obtain ⟨t, ht⟩ : ∃ t, l[i]? = some t := ⟨_, List.getElem?_eq_getElem hlt⟩
    obtain ⟨b, o, c, rfl, hTb, hbl, a3⟩ := tks_at (hl.frm hf fun _ _ h => h) ht
    have hwr : IntKind.wrap .i64 (Int.ofNat i + 1) = Int.ofNat (i + 1) := wrap_succ (by omega)
    obtain ⟨w2, s2, c2, r2, n2⟩ := boxed w (zs := [V.int .i64 0, V.str [], V.int .i64 0]) (vs := tkC t) rfl rfl
    have k0 := c2.all (n := 3) rfl
    have htk : l.take (i + 1) = l.take i ++ [t] := by rw [List.take_add_one, ht]; rfl
    have hpt := hp t (List.mem_of_getElem? ht)
    have hpl := preS_len hm (l := l.take i) (by rw [List.length_take]; omega) (fun t ht => hp t (List.mem_of_mem_take ht))
    have hprt := hpt.len
    by_cases h0 : i = 0
    · subst h0
      have f0 : f.get 0 = some (.str name) := f0
      rw [Nat.zero_mul, Nat.add_zero] at a3
      have hadd : strS BinOp.add name [40] = some (.str (name ++ [40])) := by simp only [strS, List.length_cons, List.length_nil]; rw [if_pos (by omega)]
      have hadd2 : strS BinOp.add (name ++ [40]) (prT t) = some (.str (name ++ [40] ++ prT t)) := by simp only [strS, List.length_append, List.length_cons, List.length_nil]; rw [if_pos (by omega)]
      refine WS_run 1000 (by simp only [go_sem, eRun_exit, Nat.reduceAdd, Nat.reduceLT, Nat.reduceEqDiff, reduceIte, reduceCtorEq, Int.reduceBEq, Int.reduceBNe, Int.reduceLT, Int.reduceLE, Int.reduceGT, Int.reduceGE, Int.reduceEq, Int.reduceAdd, Int.reduceSub, Int.reduceMul, Nat.reduceMul, Nat.reduceSub, Nat.reduceLeDiff, k_value_Atom_p1, k_value_Atom_p0, f0, f7, f8, f9, hlt, a3, s2, tkC_len, k0, hadd]; rfl) ?_
      refine WS_call (by simp only [go_sem, eRun_exit, Nat.reduceAdd, Nat.reduceLT, Nat.reduceEqDiff, reduceIte, reduceCtorEq, Int.reduceBEq, Int.reduceBNe, Int.reduceLT, Int.reduceLE, Int.reduceGT, Int.reduceGE, Int.reduceEq, Int.reduceAdd, Int.reduceSub, Int.reduceMul, Nat.reduceMul, Nat.reduceSub, Nat.reduceLeDiff]) (by simp only [go_sem, eRun_exit, Nat.reduceAdd, Nat.reduceLT, Nat.reduceEqDiff, reduceIte, reduceCtorEq, Int.reduceBEq, Int.reduceBNe, Int.reduceLT, Int.reduceLE, Int.reduceGT, Int.reduceGE, Int.reduceEq, Int.reduceAdd, Int.reduceSub, Int.reduceMul, Nat.reduceMul, Nat.reduceSub, Nat.reduceLeDiff]; rfl) ?_
      refine print_ok C F hpt.num fun w3 r3 => ?_
      have hadd2 : strS BinOp.add (name ++ [40]) (if t.k = 3 then fmtI t.n else t.s) = some (.str (name ++ [40] ++ prT t)) := hadd2
      refine WS_run 1000 (by simp only [go_sem, eRun_exit, Nat.reduceAdd, Nat.reduceLT, Nat.reduceEqDiff, reduceIte, reduceCtorEq, Int.reduceBEq, Int.reduceBNe, Int.reduceLT, Int.reduceLE, Int.reduceGT, Int.reduceGE, Int.reduceEq, Int.reduceAdd, Int.reduceSub, Int.reduceMul, Nat.reduceMul, Nat.reduceSub, Nat.reduceLeDiff, hadd2, f9, hwr]; rfl) ?_
      refine ih _ _ _ (by omega) ⟨1, ?_, (by simp only [go_sem, eRun_exit, Nat.reduceAdd, Nat.reduceLT, Nat.reduceEqDiff, reduceIte, reduceCtorEq, Int.reduceBEq, Int.reduceBNe, Int.reduceLT, Int.reduceLE, Int.reduceGT, Int.reduceGE, Int.reduceEq, Int.reduceAdd, Int.reduceSub, Int.reduceMul, Nat.reduceMul, Nat.reduceSub, Nat.reduceLeDiff, f1] <;> rfl), (by simp only [go_sem, eRun_exit, Nat.reduceAdd, Nat.reduceLT, Nat.reduceEqDiff, reduceIte, reduceCtorEq, Int.reduceBEq, Int.reduceBNe, Int.reduceLT, Int.reduceLE, Int.reduceGT, Int.reduceGE, Int.reduceEq, Int.reduceAdd, Int.reduceSub, Int.reduceMul, Nat.reduceMul, Nat.reduceSub, Nat.reduceLeDiff, f7] <;> rfl), (by simp only [go_sem, eRun_exit, Nat.reduceAdd, Nat.reduceLT, Nat.reduceEqDiff, reduceIte, reduceCtorEq, Int.reduceBEq, Int.reduceBNe, Int.reduceLT, Int.reduceLE, Int.reduceGT, Int.reduceGE, Int.reduceEq, Int.reduceAdd, Int.reduceSub, Int.reduceMul, Nat.reduceMul, Nat.reduceSub, Nat.reduceLeDiff, f8] <;> rfl), (by simp only [go_sem, eRun_exit, Nat.reduceAdd, Nat.reduceLT, Nat.reduceEqDiff, reduceIte, reduceCtorEq, Int.reduceBEq, Int.reduceBNe, Int.reduceLT, Int.reduceLE, Int.reduceGT, Int.reduceGE, Int.reduceEq, Int.reduceAdd, Int.reduceSub, Int.reduceMul, Nat.reduceMul, Nat.reduceSub, Nat.reduceLeDiff] <;> rfl), by omega, rfl, (hf.tr r2).tr r3⟩
      rw [htk]
      have : preS name (l.take 0 ++ [t]) = name ++ [40] ++ prT t := by simp [preS, qS]
      rw [this]; exact (by simp only [go_sem, eRun_exit, Nat.reduceAdd, Nat.reduceLT, Nat.reduceEqDiff, reduceIte, reduceCtorEq, Int.reduceBEq, Int.reduceBNe, Int.reduceLT, Int.reduceLE, Int.reduceGT, Int.reduceGE, Int.reduceEq, Int.reduceAdd, Int.reduceSub, Int.reduceMul, Nat.reduceMul, Nat.reduceSub, Nat.reduceLeDiff] <;> rfl)
    · have hne : l.take i ≠ [] := by intro h; have := congrArg List.length h; rw [List.length_take] at this; simp only [List.length_nil] at this; omega
      have hadd : strS BinOp.add (preS name (l.take i)) [44, 32] = some (.str (preS name (l.take i) ++ [44, 32])) := by simp only [strS, List.length_cons, List.length_nil]; rw [if_pos (by omega)]
      have hadd2 : strS BinOp.add (preS name (l.take i) ++ [44, 32]) (prT t) = some (.str (preS name (l.take i) ++ [44, 32] ++ prT t)) := by simp only [strS, List.length_append, List.length_cons, List.length_nil]; rw [if_pos (by omega)]
      have hadd2 : strS BinOp.add (preS name (l.take i) ++ [44, 32]) (if t.k = 3 then fmtI t.n else t.s) = some (.str (preS name (l.take i) ++ [44, 32] ++ prT t)) := hadd2
      refine WS_run 1000 (by simp only [go_sem, eRun_exit, Nat.reduceAdd, Nat.reduceLT, Nat.reduceEqDiff, reduceIte, reduceCtorEq, Int.reduceBEq, Int.reduceBNe, Int.reduceLT, Int.reduceLE, Int.reduceGT, Int.reduceGE, Int.reduceEq, Int.reduceAdd, Int.reduceSub, Int.reduceMul, Nat.reduceMul, Nat.reduceSub, Nat.reduceLeDiff, k_value_Atom_p1, k_value_Atom_p0, f0, f7, f8, f9, hlt, a3, s2, tkC_len, k0, hadd, h0]; rfl) ?_
      refine WS_call (by simp only [go_sem, eRun_exit, Nat.reduceAdd, Nat.reduceLT, Nat.reduceEqDiff, reduceIte, reduceCtorEq, Int.reduceBEq, Int.reduceBNe, Int.reduceLT, Int.reduceLE, Int.reduceGT, Int.reduceGE, Int.reduceEq, Int.reduceAdd, Int.reduceSub, Int.reduceMul, Nat.reduceMul, Nat.reduceSub, Nat.reduceLeDiff]) (by simp only [go_sem, eRun_exit, Nat.reduceAdd, Nat.reduceLT, Nat.reduceEqDiff, reduceIte, reduceCtorEq, Int.reduceBEq, Int.reduceBNe, Int.reduceLT, Int.reduceLE, Int.reduceGT, Int.reduceGE, Int.reduceEq, Int.reduceAdd, Int.reduceSub, Int.reduceMul, Nat.reduceMul, Nat.reduceSub, Nat.reduceLeDiff]; rfl) ?_
      refine print_ok C F hpt.num fun w3 r3 => ?_
      refine WS_run 1000 (by simp only [go_sem, eRun_exit, Nat.reduceAdd, Nat.reduceLT, Nat.reduceEqDiff, reduceIte, reduceCtorEq, Int.reduceBEq, Int.reduceBNe, Int.reduceLT, Int.reduceLE, Int.reduceGT, Int.reduceGE, Int.reduceEq, Int.reduceAdd, Int.reduceSub, Int.reduceMul, Nat.reduceMul, Nat.reduceSub, Nat.reduceLeDiff, hadd2, f9, hwr]; rfl) ?_
      refine ih _ _ _ (by omega) ⟨i + 1, ?_, (by simp only [go_sem, eRun_exit, Nat.reduceAdd, Nat.reduceLT, Nat.reduceEqDiff, reduceIte, reduceCtorEq, Int.reduceBEq, Int.reduceBNe, Int.reduceLT, Int.reduceLE, Int.reduceGT, Int.reduceGE, Int.reduceEq, Int.reduceAdd, Int.reduceSub, Int.reduceMul, Nat.reduceMul, Nat.reduceSub, Nat.reduceLeDiff, f1] <;> rfl), (by simp only [go_sem, eRun_exit, Nat.reduceAdd, Nat.reduceLT, Nat.reduceEqDiff, reduceIte, reduceCtorEq, Int.reduceBEq, Int.reduceBNe, Int.reduceLT, Int.reduceLE, Int.reduceGT, Int.reduceGE, Int.reduceEq, Int.reduceAdd, Int.reduceSub, Int.reduceMul, Nat.reduceMul, Nat.reduceSub, Nat.reduceLeDiff, f7] <;> rfl), (by simp only [go_sem, eRun_exit, Nat.reduceAdd, Nat.reduceLT, Nat.reduceEqDiff, reduceIte, reduceCtorEq, Int.reduceBEq, Int.reduceBNe, Int.reduceLT, Int.reduceLE, Int.reduceGT, Int.reduceGE, Int.reduceEq, Int.reduceAdd, Int.reduceSub, Int.reduceMul, Nat.reduceMul, Nat.reduceSub, Nat.reduceLeDiff, f8] <;> rfl), (by simp only [go_sem, eRun_exit, Nat.reduceAdd, Nat.reduceLT, Nat.reduceEqDiff, reduceIte, reduceCtorEq, Int.reduceBEq, Int.reduceBNe, Int.reduceLT, Int.reduceLE, Int.reduceGT, Int.reduceGE, Int.reduceEq, Int.reduceAdd, Int.reduceSub, Int.reduceMul, Nat.reduceMul, Nat.reduceSub, Nat.reduceLeDiff] <;> rfl), by omega, rfl, (hf.tr r2).tr r3⟩
      rw [htk]
      have : preS name (l.take i ++ [t]) = preS name (l.take i) ++ [44, 32] ++ prT t := by
        cases hx : l.take i with
        | nil => exact (hne hx).elim
        | cons x r => simp only [List.cons_append, preS]; rw [← List.cons_append, qS_snoc _ _ (by simp)]; simp only [List.append_assoc]
      rw [this]; exact (by simp only [go_sem, eRun_exit, Nat.reduceAdd, Nat.reduceLT, Nat.reduceEqDiff, reduceIte, reduceCtorEq, Int.reduceBEq, Int.reduceBNe, Int.reduceLT, Int.reduceLE, Int.reduceGT, Int.reduceGE, Int.reduceEq, Int.reduceAdd, Int.reduceSub, Int.reduceMul, Nat.reduceMul, Nat.reduceSub, Nat.reduceLeDiff] <;> rfl)
  · rintro f w ⟨i, f0, f1, f7, f8, f9, hi, hq, hf⟩
    obtain rfl : i = l.length := by omega
    rw [List.take_of_length_le (Nat.le_refl _)] at f0
    have hpl := preS_len hm hn hp
    have h := h w hf
    cases l with
    | nil =>
      have hlv : lenV lv = some 0 := hlv
      have f0 : f.get 0 = some (.str name) := f0
      refine WS_run 1000 (by simp only [go_sem, eRun_exit, Nat.reduceAdd, Nat.reduceLT, Nat.reduceEqDiff, reduceIte, reduceCtorEq, Int.reduceBEq, Int.reduceBNe, Int.reduceLT, Int.reduceLE, Int.reduceGT, Int.reduceGE, Int.reduceEq, Int.reduceAdd, Int.reduceSub, Int.reduceMul, Nat.reduceMul, Nat.reduceSub, Nat.reduceLeDiff, f0, f1, hlv]; rfl) ?_
      refine WS_ret ⟨_, by simp only [go_sem, eRun_exit, Nat.reduceAdd, Nat.reduceLT, Nat.reduceEqDiff, reduceIte, reduceCtorEq, Int.reduceBEq, Int.reduceBNe, Int.reduceLT, Int.reduceLE, Int.reduceGT, Int.reduceGE, Int.reduceEq, Int.reduceAdd, Int.reduceSub, Int.reduceMul, Nat.reduceMul, Nat.reduceSub, Nat.reduceLeDiff, k_value_Atom]; rfl, ?_⟩
      exact h
    | cons x l =>
      have hlv : lenV lv = some (l.length + 1) := hlv
      have hadd : strS BinOp.add (preS name (x :: l)) [41] = some (.str (preS name (x :: l) ++ [41])) := by simp only [strS, List.length_cons, List.length_nil]; rw [if_pos (by omega)]
      refine WS_run 1000 (by simp only [go_sem, eRun_exit, Nat.reduceAdd, Nat.reduceLT, Nat.reduceEqDiff, reduceIte, reduceCtorEq, Int.reduceBEq, Int.reduceBNe, Int.reduceLT, Int.reduceLE, Int.reduceGT, Int.reduceGE, Int.reduceEq, Int.reduceAdd, Int.reduceSub, Int.reduceMul, Nat.reduceMul, Nat.reduceSub, Nat.reduceLeDiff, f0, f1, hlv, hadd]; rfl) ?_
      refine WS_ret ⟨_, by simp only [go_sem, eRun_exit, Nat.reduceAdd, Nat.reduceLT, Nat.reduceEqDiff, reduceIte, reduceCtorEq, Int.reduceBEq, Int.reduceBNe, Int.reduceLT, Int.reduceLE, Int.reduceGT, Int.reduceGE, Int.reduceEq, Int.reduceAdd, Int.reduceSub, Int.reduceMul, Nat.reduceMul, Nat.reduceSub, Nat.reduceLeDiff, k_value_Atom]; rfl, ?_⟩
      exact h
end Go.Proofs.YtjidefnbancmfaaDoor

/- Constants: atoms printed, as the document says; facts; the law of facts. -/
set_option linter.unusedVariables false
set_option maxRecDepth 10000
set_option linter.unusedSimpArgs false
namespace Go.Proofs.YtjidefnbancmfaaDoor
open Go.AE Delphi
variable {tab : Tab}
def RtI (aw : AW) (name : List Nat) (lv : V) (l : List Tk) (q : Nat) (f : Fr) (w : AW) : Prop :=
  ∃ i, f.get 5 = some (.str (name ++ [40] ++ qS (l.take i))) ∧ f.get 1 = some lv ∧ f.get 6 = some (.int .i64 (Int.ofNat i)) ∧ i ≤ l.length ∧ q = l.length - i ∧ Frm (fun _ => False) aw w
theorem rAtom_ok (C : Codes tab) {T : Nat → Prop} {aw : AW} {name : List Nat} {lv : V} {l : List Tk} {K : V → AW → Prop} (hl : Rd T aw lv 3 l.length (tksC l)) (hn : l.length ≤ 1000) (hm : name.length ≤ 1000) (hp : ∀ t ∈ l, TkPr t)
    (h : ∀ w, Frm (fun _ => False) aw w → K (.str (atomS name l)) w) : WF tab n_ref8_Atom [.str name, lv] aw K := by
  refine WF_of C.c_ref8_Atom rfl ?_
  have hlv := hl.lenV
  by_cases hz : l = []
  · subst hz
    have hlv : lenV lv = some 0 := hlv
    refine WS_run 1000 (by simp only [go_sem, eRun_exit, Nat.reduceAdd, Nat.reduceLT, Nat.reduceEqDiff, reduceIte, reduceCtorEq, Int.reduceBEq, Int.reduceBNe, Int.reduceLT, Int.reduceLE, Int.reduceGT, Int.reduceGE, Int.reduceEq, Int.reduceAdd, Int.reduceSub, Int.reduceMul, Nat.reduceMul, Nat.reduceSub, Nat.reduceLeDiff, k_ref8_Atom, hlv]; rfl) ?_
    refine WS_ret ⟨_, by simp only [go_sem, eRun_exit, Nat.reduceAdd, Nat.reduceLT, Nat.reduceEqDiff, reduceIte, reduceCtorEq, Int.reduceBEq, Int.reduceBNe, Int.reduceLT, Int.reduceLE, Int.reduceGT, Int.reduceGE, Int.reduceEq, Int.reduceAdd, Int.reduceSub, Int.reduceMul, Nat.reduceMul, Nat.reduceSub, Nat.reduceLeDiff, k_ref8_Atom]; rfl, ?_⟩
    exact h aw (Frm.refl _)
  have hlz : l.length ≠ 0 := fun h => hz (List.eq_nil_of_length_eq_zero h)
  have hadd : strS BinOp.add name [40] = some (.str (name ++ [40])) := by simp only [strS, List.length_cons, List.length_nil]; rw [if_pos (by omega)]
  refine WS_run 1000 (by simp only [go_sem, eRun_exit, Nat.reduceAdd, Nat.reduceLT, Nat.reduceEqDiff, reduceIte, reduceCtorEq, Int.reduceBEq, Int.reduceBNe, Int.reduceLT, Int.reduceLE, Int.reduceGT, Int.reduceGE, Int.reduceEq, Int.reduceAdd, Int.reduceSub, Int.reduceMul, Nat.reduceMul, Nat.reduceSub, Nat.reduceLeDiff, k_ref8_Atom, hlv, hlz, hadd]; rfl) ?_
  refine WS_loopJ (RtI aw name lv l) (RtI aw name lv l 0) ?_ ?_ l.length ⟨0, by rw [show name ++ [40] ++ qS (l.take 0) = name ++ [40] by simp [qS]]; exact (by simp only [go_sem, eRun_exit, Nat.reduceAdd, Nat.reduceLT, Nat.reduceEqDiff, reduceIte, reduceCtorEq, Int.reduceBEq, Int.reduceBNe, Int.reduceLT, Int.reduceLE, Int.reduceGT, Int.reduceGE, Int.reduceEq, Int.reduceAdd, Int.reduceSub, Int.reduceMul, Nat.reduceMul, Nat.reduceSub, Nat.reduceLeDiff] <;> rfl), (by simp only [go_sem, eRun_exit, Nat.reduceAdd, Nat.reduceLT, Nat.reduceEqDiff, reduceIte, reduceCtorEq, Int.reduceBEq, Int.reduceBNe, Int.reduceLT, Int.reduceLE, Int.reduceGT, Int.reduceGE, Int.reduceEq, Int.reduceAdd, Int.reduceSub, Int.reduceMul, Nat.reduceMul, Nat.reduceSub, Nat.reduceLeDiff] <;> rfl), (by simp only [go_sem, eRun_exit, Nat.reduceAdd, Nat.reduceLT, Nat.reduceEqDiff, reduceIte, reduceCtorEq, Int.reduceBEq, Int.reduceBNe, Int.reduceLT, Int.reduceLE, Int.reduceGT, Int.reduceGE, Int.reduceEq, Int.reduceAdd, Int.reduceSub, Int.reduceMul, Nat.reduceMul, Nat.reduceSub, Nat.reduceLeDiff] <;> rfl), by omega, rfl, Frm.refl _⟩
  · rintro q f w ⟨i, f5, f1, f6, hi, rfl, hf⟩ ih exit
    by_cases hlt : i < l.length
    case neg =>
      refine WS_runB 1000 (by simp only [go_sem, Nat.reduceAdd, Nat.reduceLT, Nat.reduceEqDiff, reduceIte, reduceCtorEq, Int.reduceBEq, Int.reduceBNe, Int.reduceLT, Int.reduceLE, Int.reduceGT, Int.reduceGE, Int.reduceEq, Int.reduceAdd, Int.reduceSub, Int.reduceMul, Nat.reduceMul, Nat.reduceSub, Nat.reduceLeDiff, k_ref8_Atom_p1, f1, f6, hlv, hlt]; rfl) ?_
      exact exit _ _ _ ⟨i, (by simp only [go_sem, eRun_exit, Nat.reduceAdd, Nat.reduceLT, Nat.reduceEqDiff, reduceIte, reduceCtorEq, Int.reduceBEq, Int.reduceBNe, Int.reduceLT, Int.reduceLE, Int.reduceGT, Int.reduceGE, Int.reduceEq, Int.reduceAdd, Int.reduceSub, Int.reduceMul, Nat.reduceMul, Nat.reduceSub, Nat.reduceLeDiff, f5] <;> rfl), (by simp only [go_sem, eRun_exit, Nat.reduceAdd, Nat.reduceLT, Nat.reduceEqDiff, reduceIte, reduceCtorEq, Int.reduceBEq, Int.reduceBNe, Int.reduceLT, Int.reduceLE, Int.reduceGT, Int.reduceGE, Int.reduceEq, Int.reduceAdd, Int.reduceSub, Int.reduceMul, Nat.reduceMul, Nat.reduceSub, Nat.reduceLeDiff, f1] <;> rfl), (by simp only [go_sem, eRun_exit, Nat.reduceAdd, Nat.reduceLT, Nat.reduceEqDiff, reduceIte, reduceCtorEq, Int.reduceBEq, Int.reduceBNe, Int.reduceLT, Int.reduceLE, Int.reduceGT, Int.reduceGE, Int.reduceEq, Int.reduceAdd, Int.reduceSub, Int.reduceMul, Nat.reduceMul, Nat.reduceSub, Nat.reduceLeDiff, f6] <;> rfl), by omega, by omega, hf⟩ rfl
    obtain ⟨t, ht⟩ : ∃ t, l[i]? = some t := ⟨_, List.getElem?_eq_getElem hlt⟩
    obtain ⟨b, o, c, rfl, hTb, hbl, a3⟩ := tks_at (hl.frm hf fun _ _ h => h) ht
    have hwr : IntKind.wrap .i64 (Int.ofNat i + 1) = Int.ofNat (i + 1) := wrap_succ (by omega)
    have htk : l.take (i + 1) = l.take i ++ [t] := by rw [List.take_add_one, ht]; rfl
    have hpt := hp t (List.mem_of_getElem? ht)
    have hql := qS_len (l.take i) (fun t ht => hp t (List.mem_of_mem_take ht))
    rw [List.length_take] at hql
    have hprt := hpt.len
    by_cases h0 : i = 0
    · subst h0
      have f5 : f.get 5 = some (.str (name ++ [40])) := by rw [f5]; simp [qS]
      rw [Nat.zero_mul, Nat.add_zero] at a3
      have hadd2 : strS BinOp.add (name ++ [40]) (if t.k = 3 then fmtI t.n else t.s) = some (.str (name ++ [40] ++ prT t)) := by
        show strS BinOp.add (name ++ [40]) (prT t) = _
        simp only [strS, List.length_append, List.length_cons, List.length_nil]; rw [if_pos (by omega)]
      refine WS_run 1000 (by simp only [go_sem, eRun_exit, Nat.reduceAdd, Nat.reduceLT, Nat.reduceEqDiff, reduceIte, reduceCtorEq, Int.reduceBEq, Int.reduceBNe, Int.reduceLT, Int.reduceLE, Int.reduceGT, Int.reduceGE, Int.reduceEq, Int.reduceAdd, Int.reduceSub, Int.reduceMul, Nat.reduceMul, Nat.reduceSub, Nat.reduceLeDiff, k_ref8_Atom_p1, k_ref8_Atom_p0, f1, f5, f6, hlv, hlt, a3]; rfl) ?_
      refine WS_call (by simp only [go_sem, eRun_exit, Nat.reduceAdd, Nat.reduceLT, Nat.reduceEqDiff, reduceIte, reduceCtorEq, Int.reduceBEq, Int.reduceBNe, Int.reduceLT, Int.reduceLE, Int.reduceGT, Int.reduceGE, Int.reduceEq, Int.reduceAdd, Int.reduceSub, Int.reduceMul, Nat.reduceMul, Nat.reduceSub, Nat.reduceLeDiff]) (by simp only [go_sem, eRun_exit, Nat.reduceAdd, Nat.reduceLT, Nat.reduceEqDiff, reduceIte, reduceCtorEq, Int.reduceBEq, Int.reduceBNe, Int.reduceLT, Int.reduceLE, Int.reduceGT, Int.reduceGE, Int.reduceEq, Int.reduceAdd, Int.reduceSub, Int.reduceMul, Nat.reduceMul, Nat.reduceSub, Nat.reduceLeDiff]; rfl) ?_
      refine rPrint_ok C hpt.num fun w3 r3 => ?_
      refine WS_run 1000 (by simp only [go_sem, eRun_exit, Nat.reduceAdd, Nat.reduceLT, Nat.reduceEqDiff, reduceIte, reduceCtorEq, Int.reduceBEq, Int.reduceBNe, Int.reduceLT, Int.reduceLE, Int.reduceGT, Int.reduceGE, Int.reduceEq, Int.reduceAdd, Int.reduceSub, Int.reduceMul, Nat.reduceMul, Nat.reduceSub, Nat.reduceLeDiff, hadd2, f6, hwr]; rfl) ?_
      refine ih _ _ _ (by omega) ⟨1, ?_, (by simp only [go_sem, eRun_exit, Nat.reduceAdd, Nat.reduceLT, Nat.reduceEqDiff, reduceIte, reduceCtorEq, Int.reduceBEq, Int.reduceBNe, Int.reduceLT, Int.reduceLE, Int.reduceGT, Int.reduceGE, Int.reduceEq, Int.reduceAdd, Int.reduceSub, Int.reduceMul, Nat.reduceMul, Nat.reduceSub, Nat.reduceLeDiff, f1] <;> rfl), (by simp only [go_sem, eRun_exit, Nat.reduceAdd, Nat.reduceLT, Nat.reduceEqDiff, reduceIte, reduceCtorEq, Int.reduceBEq, Int.reduceBNe, Int.reduceLT, Int.reduceLE, Int.reduceGT, Int.reduceGE, Int.reduceEq, Int.reduceAdd, Int.reduceSub, Int.reduceMul, Nat.reduceMul, Nat.reduceSub, Nat.reduceLeDiff] <;> rfl), by omega, rfl, hf.tr r3⟩
      rw [htk]
      have : name ++ [40] ++ qS (l.take 0 ++ [t]) = name ++ [40] ++ prT t := by simp [qS]
      rw [this]; exact (by simp only [go_sem, eRun_exit, Nat.reduceAdd, Nat.reduceLT, Nat.reduceEqDiff, reduceIte, reduceCtorEq, Int.reduceBEq, Int.reduceBNe, Int.reduceLT, Int.reduceLE, Int.reduceGT, Int.reduceGE, Int.reduceEq, Int.reduceAdd, Int.reduceSub, Int.reduceMul, Nat.reduceMul, Nat.reduceSub, Nat.reduceLeDiff] <;> rfl)
    · have hne : l.take i ≠ [] := by intro h; have := congrArg List.length h; rw [List.length_take] at this; simp only [List.length_nil] at this; omega
      have hp0 : 0 < i := by omega
      have hmin : min i l.length ≤ 1000 := by omega
      have hadd : strS BinOp.add (name ++ [40] ++ qS (l.take i)) [44, 32] = some (.str (name ++ [40] ++ qS (l.take i) ++ [44, 32])) := by simp only [strS, List.length_append, List.length_cons, List.length_nil]; rw [if_pos (by omega)]
      have hadd2 : strS BinOp.add (name ++ [40] ++ qS (l.take i) ++ [44, 32]) (if t.k = 3 then fmtI t.n else t.s) = some (.str (name ++ [40] ++ qS (l.take i) ++ [44, 32] ++ prT t)) := by
        show strS BinOp.add _ (prT t) = _
        simp only [strS, List.length_append, List.length_cons, List.length_nil]; rw [if_pos (by omega)]
      refine WS_run 1000 (by simp only [go_sem, eRun_exit, Nat.reduceAdd, Nat.reduceLT, Nat.reduceEqDiff, reduceIte, reduceCtorEq, Int.reduceBEq, Int.reduceBNe, Int.reduceLT, Int.reduceLE, Int.reduceGT, Int.reduceGE, Int.reduceEq, Int.reduceAdd, Int.reduceSub, Int.reduceMul, Nat.reduceMul, Nat.reduceSub, Nat.reduceLeDiff, k_ref8_Atom_p1, k_ref8_Atom_p0, f1, f5, f6, hlv, hlt, a3, hadd, hp0]; rfl) ?_
      refine WS_call (by simp only [go_sem, eRun_exit, Nat.reduceAdd, Nat.reduceLT, Nat.reduceEqDiff, reduceIte, reduceCtorEq, Int.reduceBEq, Int.reduceBNe, Int.reduceLT, Int.reduceLE, Int.reduceGT, Int.reduceGE, Int.reduceEq, Int.reduceAdd, Int.reduceSub, Int.reduceMul, Nat.reduceMul, Nat.reduceSub, Nat.reduceLeDiff]) (by simp only [go_sem, eRun_exit, Nat.reduceAdd, Nat.reduceLT, Nat.reduceEqDiff, reduceIte, reduceCtorEq, Int.reduceBEq, Int.reduceBNe, Int.reduceLT, Int.reduceLE, Int.reduceGT, Int.reduceGE, Int.reduceEq, Int.reduceAdd, Int.reduceSub, Int.reduceMul, Nat.reduceMul, Nat.reduceSub, Nat.reduceLeDiff]; rfl) ?_
      refine rPrint_ok C hpt.num fun w3 r3 => ?_
      refine WS_run 1000 (by simp only [go_sem, eRun_exit, Nat.reduceAdd, Nat.reduceLT, Nat.reduceEqDiff, reduceIte, reduceCtorEq, Int.reduceBEq, Int.reduceBNe, Int.reduceLT, Int.reduceLE, Int.reduceGT, Int.reduceGE, Int.reduceEq, Int.reduceAdd, Int.reduceSub, Int.reduceMul, Nat.reduceMul, Nat.reduceSub, Nat.reduceLeDiff, hadd2, f6, hwr]; rfl) ?_
      refine ih _ _ _ (by omega) ⟨i + 1, ?_, (by simp only [go_sem, eRun_exit, Nat.reduceAdd, Nat.reduceLT, Nat.reduceEqDiff, reduceIte, reduceCtorEq, Int.reduceBEq, Int.reduceBNe, Int.reduceLT, Int.reduceLE, Int.reduceGT, Int.reduceGE, Int.reduceEq, Int.reduceAdd, Int.reduceSub, Int.reduceMul, Nat.reduceMul, Nat.reduceSub, Nat.reduceLeDiff, f1] <;> rfl), (by simp only [go_sem, eRun_exit, Nat.reduceAdd, Nat.reduceLT, Nat.reduceEqDiff, reduceIte, reduceCtorEq, Int.reduceBEq, Int.reduceBNe, Int.reduceLT, Int.reduceLE, Int.reduceGT, Int.reduceGE, Int.reduceEq, Int.reduceAdd, Int.reduceSub, Int.reduceMul, Nat.reduceMul, Nat.reduceSub, Nat.reduceLeDiff] <;> rfl), by omega, rfl, hf.tr r3⟩
      rw [htk]
      have : name ++ [40] ++ qS (l.take i ++ [t]) = name ++ [40] ++ qS (l.take i) ++ [44, 32] ++ prT t := by
        rw [qS_snoc _ _ hne]; simp only [List.append_assoc]
      rw [this]; exact (by simp only [go_sem, eRun_exit, Nat.reduceAdd, Nat.reduceLT, Nat.reduceEqDiff, reduceIte, reduceCtorEq, Int.reduceBEq, Int.reduceBNe, Int.reduceLT, Int.reduceLE, Int.reduceGT, Int.reduceGE, Int.reduceEq, Int.reduceAdd, Int.reduceSub, Int.reduceMul, Nat.reduceMul, Nat.reduceSub, Nat.reduceLeDiff] <;> rfl)
  · rintro f w ⟨i, f5, f1, f6, hi, hq, hf⟩
    obtain rfl : i = l.length := by omega
    rw [List.take_of_length_le (Nat.le_refl _)] at f5
    have hql := qS_len l hp
    have h := h w hf
    have e : atomS name l = name ++ [40] ++ qS l ++ [41] := by cases l with | nil => exact (hz rfl).elim | cons x l => rfl
    rw [e] at h
    have hadd : strS BinOp.add (name ++ [40] ++ qS l) [41] = some (.str (name ++ [40] ++ qS l ++ [41])) := by simp only [strS, List.length_append, List.length_cons, List.length_nil]; rw [if_pos (by omega)]
    refine WS_run 1000 (by simp only [go_sem, eRun_exit, Nat.reduceAdd, Nat.reduceLT, Nat.reduceEqDiff, reduceIte, reduceCtorEq, Int.reduceBEq, Int.reduceBNe, Int.reduceLT, Int.reduceLE, Int.reduceGT, Int.reduceGE, Int.reduceEq, Int.reduceAdd, Int.reduceSub, Int.reduceMul, Nat.reduceMul, Nat.reduceSub, Nat.reduceLeDiff, f5, hadd]; rfl) ?_
    refine WS_ret ⟨_, by simp only [go_sem, eRun_exit, Nat.reduceAdd, Nat.reduceLT, Nat.reduceEqDiff, reduceIte, reduceCtorEq, Int.reduceBEq, Int.reduceBNe, Int.reduceLT, Int.reduceLE, Int.reduceGT, Int.reduceGE, Int.reduceEq, Int.reduceAdd, Int.reduceSub, Int.reduceMul, Nat.reduceMul, Nat.reduceSub, Nat.reduceLeDiff, k_ref8_Atom]; rfl, ?_⟩
    exact h
theorem fact_ok (C : Codes tab) (F : Formats tab) {T : Nat → Prop} {aw : AW} {name : List Nat} {lv : V} {l : List Tk} {K : V → AW → Prop} (hl : Rd T aw lv 3 l.length (tksC l)) (hn : l.length ≤ 1000) (hm : name.length ≤ 1000) (hp : ∀ t ∈ l, TkPr t)
    (h : ∀ w, Frm (fun _ => False) aw w → K (.str (atomS name l)) w) : WF tab n_value_Fact [.agg [.str name, lv]] aw K := by
  refine WF_of C.c_value_Fact rfl ?_
  obtain ⟨w1, e1, c1, r1, m1⟩ := box1 aw [.str name, lv]
  have l0 := CB.ld c1 0 1 _ rfl
  have l1 := CB.ld c1 1 1 _ rfl
  refine WS_run 1000 (by simp only [go_sem, eRun_exit, Nat.reduceAdd, Nat.reduceLT, Nat.reduceEqDiff, reduceIte, reduceCtorEq, Int.reduceBEq, Int.reduceBNe, Int.reduceLT, Int.reduceLE, Int.reduceGT, Int.reduceGE, Int.reduceEq, Int.reduceAdd, Int.reduceSub, Int.reduceMul, Nat.reduceMul, Nat.reduceSub, Nat.reduceLeDiff, k_value_Fact, e1, l0, l1]; rfl) ?_
  refine WS_call (by simp only [go_sem, eRun_exit, Nat.reduceAdd, Nat.reduceLT, Nat.reduceEqDiff, reduceIte, reduceCtorEq, Int.reduceBEq, Int.reduceBNe, Int.reduceLT, Int.reduceLE, Int.reduceGT, Int.reduceGE, Int.reduceEq, Int.reduceAdd, Int.reduceSub, Int.reduceMul, Nat.reduceMul, Nat.reduceSub, Nat.reduceLeDiff]) (by simp only [go_sem, eRun_exit, Nat.reduceAdd, Nat.reduceLT, Nat.reduceEqDiff, reduceIte, reduceCtorEq, Int.reduceBEq, Int.reduceBNe, Int.reduceLT, Int.reduceLE, Int.reduceGT, Int.reduceGE, Int.reduceEq, Int.reduceAdd, Int.reduceSub, Int.reduceMul, Nat.reduceMul, Nat.reduceSub, Nat.reduceLeDiff]; rfl) ?_
  refine atom_ok C F (hl.frm r1 fun _ _ h => h) hn hm hp fun w2 r2 => ?_
  refine WS_run 1000 (by simp only [go_sem, eRun_exit, Nat.reduceAdd, Nat.reduceLT, Nat.reduceEqDiff, reduceIte, reduceCtorEq, Int.reduceBEq, Int.reduceBNe, Int.reduceLT, Int.reduceLE, Int.reduceGT, Int.reduceGE, Int.reduceEq, Int.reduceAdd, Int.reduceSub, Int.reduceMul, Nat.reduceMul, Nat.reduceSub, Nat.reduceLeDiff]; rfl) ?_
  refine WS_ret ⟨_, by simp only [go_sem, eRun_exit, Nat.reduceAdd, Nat.reduceLT, Nat.reduceEqDiff, reduceIte, reduceCtorEq, Int.reduceBEq, Int.reduceBNe, Int.reduceLT, Int.reduceLE, Int.reduceGT, Int.reduceGE, Int.reduceEq, Int.reduceAdd, Int.reduceSub, Int.reduceMul, Nat.reduceMul, Nat.reduceSub, Nat.reduceLeDiff, k_value_Fact]; rfl, ?_⟩
  exact h w2 (r1.tr r2)
end Go.Proofs.YtjidefnbancmfaaDoor

/- Constants: the law of facts. -/
set_option linter.unusedVariables false
set_option maxRecDepth 10000
set_option linter.unusedSimpArgs false
namespace Go.Proofs.YtjidefnbancmfaaDoor
open Go.AE Delphi
variable {tab : Tab}
structure FcW (aw : AW) (nm : List Nat) (av v : V) (S : Nat → Prop) (out : List Tk) (w : AW) : Prop where
  a : CB w aw.next [.str nm, av]
  b : Bt S w v 3 out.length (tksC out)
  s : ∀ x, S x → aw.next < x ∧ x < w.next
  f : Frm (fun _ => False) aw w
  may : ∀ t ∈ out, TkPr t
  len : out.length ≤ 6
theorem FcW.step {aw : AW} {nm : List Nat} {av v : V} {S : Nat → Prop} {out : List Tk} {w w' : AW} (h : FcW aw nm av v S out w) (hf : Frm (fun _ => False) w w') : FcW aw nm av v S out w' :=
  ⟨h.a.frm hf fun h => h, h.b.frm hf fun _ _ h => h, fun x hx => ⟨(h.s x hx).1, Nat.lt_of_lt_of_le (h.s x hx).2 hf.next⟩, h.f.tr hf, h.may, h.len⟩
def FcI (aw : AW) (nm : List Nat) (av : V) (n : Nat) (q : Nat) (f : Fr) (w : AW) : Prop :=
  ∃ i v S out, f.get 1 = some (.ptr aw.next 0) ∧ f.get 4 = some v ∧ f.get 5 = some (.int .i64 (Int.ofNat i)) ∧ FcW aw nm av v S out w ∧ i ≤ n ∧ i ≤ 6 ∧ out.length = i ∧ q = 6 - i
theorem tksC_len (l : List Tk) : (tksC l).length = l.length * 3 := by
  induction l with
  | nil => rfl
  | cons x l ih => show (tkC x ++ tksC l).length = _; rw [List.length_append, ih, List.length_cons]; show 3 + _ = _; omega
theorem valueFact_law (C : Codes tab) (B : Begins tab) (F : Formats tab) {nm : List Nat} {av : V} {args : List Tk} {aw : AW} (hav : allOne [.str nm, av] = true) (hr : Rd (fun b => b < aw.next) aw av 3 args.length (tksC args)) (hby : ∀ t ∈ args, ∀ c ∈ t.s, c < 256) :
    WF tab n_law6_ValueFact [.agg [.str nm, av]] aw (fun v w => v = .bool true ∧ Frm (fun _ => False) aw w) := by
  refine WF_of C.c_law6_ValueFact rfl ?_
  obtain ⟨w1, e1, c1, r1, m1⟩ := box1 aw [.str nm, av]
  refine WS_run 1000 (by simp only [go_sem, eRun_exit, Nat.reduceAdd, Nat.reduceLT, Nat.reduceEqDiff, reduceIte, reduceCtorEq, Int.reduceBEq, Int.reduceBNe, Int.reduceLT, Int.reduceLE, Int.reduceGT, Int.reduceGE, Int.reduceEq, Int.reduceAdd, Int.reduceSub, Int.reduceMul, Nat.reduceMul, Nat.reduceSub, Nat.reduceLeDiff, k_law6_ValueFact, e1]; rfl) ?_
  refine WS_call (by simp only [go_sem, eRun_exit, Nat.reduceAdd, Nat.reduceLT, Nat.reduceEqDiff, reduceIte, reduceCtorEq, Int.reduceBEq, Int.reduceBNe, Int.reduceLT, Int.reduceLE, Int.reduceGT, Int.reduceGE, Int.reduceEq, Int.reduceAdd, Int.reduceSub, Int.reduceMul, Nat.reduceMul, Nat.reduceSub, Nat.reduceLeDiff]) (by simp only [go_sem, eRun_exit, Nat.reduceAdd, Nat.reduceLT, Nat.reduceEqDiff, reduceIte, reduceCtorEq, Int.reduceBEq, Int.reduceBNe, Int.reduceLT, Int.reduceLE, Int.reduceGT, Int.reduceGE, Int.reduceEq, Int.reduceAdd, Int.reduceSub, Int.reduceMul, Nat.reduceMul, Nat.reduceSub, Nat.reduceLeDiff]; rfl) ?_
  refine begins_ok B ?_
  have l0 := CB.ld c1 0 1 _ rfl
  refine WS_run 1000 (by simp only [go_sem, eRun_exit, Nat.reduceAdd, Nat.reduceLT, Nat.reduceEqDiff, reduceIte, reduceCtorEq, Int.reduceBEq, Int.reduceBNe, Int.reduceLT, Int.reduceLE, Int.reduceGT, Int.reduceGE, Int.reduceEq, Int.reduceAdd, Int.reduceSub, Int.reduceMul, Nat.reduceMul, Nat.reduceSub, Nat.reduceLeDiff, l0]; rfl) ?_
  refine WS_call (by simp only [go_sem, eRun_exit, Nat.reduceAdd, Nat.reduceLT, Nat.reduceEqDiff, reduceIte, reduceCtorEq, Int.reduceBEq, Int.reduceBNe, Int.reduceLT, Int.reduceLE, Int.reduceGT, Int.reduceGE, Int.reduceEq, Int.reduceAdd, Int.reduceSub, Int.reduceMul, Nat.reduceMul, Nat.reduceSub, Nat.reduceLeDiff]) (by simp only [go_sem, eRun_exit, Nat.reduceAdd, Nat.reduceLT, Nat.reduceEqDiff, reduceIte, reduceCtorEq, Int.reduceBEq, Int.reduceBNe, Int.reduceLT, Int.reduceLE, Int.reduceGT, Int.reduceGE, Int.reduceEq, Int.reduceAdd, Int.reduceSub, Int.reduceMul, Nat.reduceMul, Nat.reduceSub, Nat.reduceLeDiff]; rfl) ?_
  refine cut_ok C ?_
  have s2 : w1.store aw.next 0 [.str (nm.take 20)] = some (w1.put aw.next [.str (nm.take 20), av]) := c1.set (i := 0) (v := .str (nm.take 20)) (by simp) rfl
  have c2 : CB _ aw.next _ := put_cb (l := [V.str (nm.take 20), av]) c1.lt
  have f2 := put_frm (w := w1) (b := aw.next) (l := [V.str (nm.take 20), av])
  have r2 : Frm (fun _ => False) aw (w1.put aw.next [V.str (nm.take 20), av]) := r1.trans f2 (fun _ _ h => h) (by rintro x hx rfl; omega)
  generalize w1.put aw.next [V.str (nm.take 20), av] = w2 at *
  have hnm : (nm.take 20).length ≤ 1000 := by rw [List.length_take]; omega
  generalize nm.take 20 = nm' at *
  refine WS_run 1000 (by simp only [go_sem, eRun_exit, Nat.reduceAdd, Nat.reduceLT, Nat.reduceEqDiff, reduceIte, reduceCtorEq, Int.reduceBEq, Int.reduceBNe, Int.reduceLT, Int.reduceLE, Int.reduceGT, Int.reduceGE, Int.reduceEq, Int.reduceAdd, Int.reduceSub, Int.reduceMul, Nat.reduceMul, Nat.reduceSub, Nat.reduceLeDiff, s2, List.length_cons, List.length_nil]; rfl) ?_
  have W0 : FcW aw nm' av .nilslice (fun _ => False) [] w2 := ⟨c2, .nil, fun _ h => h.elim, r2, by simp, by simp⟩
  refine WS_loopJ (FcI aw nm' av args.length) (fun f w => ∃ q, FcI aw nm' av args.length q f w) ?_ ?_ 6 ⟨0, .nilslice, fun _ => False, [], (by simp only [go_sem, eRun_exit, Nat.reduceAdd, Nat.reduceLT, Nat.reduceEqDiff, reduceIte, reduceCtorEq, Int.reduceBEq, Int.reduceBNe, Int.reduceLT, Int.reduceLE, Int.reduceGT, Int.reduceGE, Int.reduceEq, Int.reduceAdd, Int.reduceSub, Int.reduceMul, Nat.reduceMul, Nat.reduceSub, Nat.reduceLeDiff] <;> rfl), (by simp only [go_sem, eRun_exit, Nat.reduceAdd, Nat.reduceLT, Nat.reduceEqDiff, reduceIte, reduceCtorEq, Int.reduceBEq, Int.reduceBNe, Int.reduceLT, Int.reduceLE, Int.reduceGT, Int.reduceGE, Int.reduceEq, Int.reduceAdd, Int.reduceSub, Int.reduceMul, Nat.reduceMul, Nat.reduceSub, Nat.reduceLeDiff] <;> rfl), (by simp only [go_sem, eRun_exit, Nat.reduceAdd, Nat.reduceLT, Nat.reduceEqDiff, reduceIte, reduceCtorEq, Int.reduceBEq, Int.reduceBNe, Int.reduceLT, Int.reduceLE, Int.reduceGT, Int.reduceGE, Int.reduceEq, Int.reduceAdd, Int.reduceSub, Int.reduceMul, Nat.reduceMul, Nat.reduceSub, Nat.reduceLeDiff] <;> rfl), W0, by omega, by omega, rfl, rfl⟩
  · rintro q f w ⟨i, v, S, out, f1, f4, f5, hW, hi, h6, hol, rfl⟩ ih exit
    have l1 := CB.ld hW.a 1 1 _ rfl
    have hrw := hr.frm hW.f fun _ _ h => h
    have hlv := hrw.lenV
    by_cases hlt : i < args.length
    case neg =>
      refine WS_runB 1000 (by simp only [go_sem, Nat.reduceAdd, Nat.reduceLT, Nat.reduceEqDiff, reduceIte, reduceCtorEq, Int.reduceBEq, Int.reduceBNe, Int.reduceLT, Int.reduceLE, Int.reduceGT, Int.reduceGE, Int.reduceEq, Int.reduceAdd, Int.reduceSub, Int.reduceMul, Nat.reduceMul, Nat.reduceSub, Nat.reduceLeDiff, k_law6_ValueFact_p1, f1, f5, l1, hlv, hlt]; rfl) ?_
      exact exit _ _ _ ⟨_, i, v, S, out, (by simp only [go_sem, eRun_exit, Nat.reduceAdd, Nat.reduceLT, Nat.reduceEqDiff, reduceIte, reduceCtorEq, Int.reduceBEq, Int.reduceBNe, Int.reduceLT, Int.reduceLE, Int.reduceGT, Int.reduceGE, Int.reduceEq, Int.reduceAdd, Int.reduceSub, Int.reduceMul, Nat.reduceMul, Nat.reduceSub, Nat.reduceLeDiff, f1] <;> rfl), (by simp only [go_sem, eRun_exit, Nat.reduceAdd, Nat.reduceLT, Nat.reduceEqDiff, reduceIte, reduceCtorEq, Int.reduceBEq, Int.reduceBNe, Int.reduceLT, Int.reduceLE, Int.reduceGT, Int.reduceGE, Int.reduceEq, Int.reduceAdd, Int.reduceSub, Int.reduceMul, Nat.reduceMul, Nat.reduceSub, Nat.reduceLeDiff, f4] <;> rfl), (by simp only [go_sem, eRun_exit, Nat.reduceAdd, Nat.reduceLT, Nat.reduceEqDiff, reduceIte, reduceCtorEq, Int.reduceBEq, Int.reduceBNe, Int.reduceLT, Int.reduceLE, Int.reduceGT, Int.reduceGE, Int.reduceEq, Int.reduceAdd, Int.reduceSub, Int.reduceMul, Nat.reduceMul, Nat.reduceSub, Nat.reduceLeDiff, f5] <;> rfl), hW, hi, h6, hol, rfl⟩ rfl
    by_cases hl6 : i < 6
    case neg =>
      refine WS_runB 1000 (by simp only [go_sem, Nat.reduceAdd, Nat.reduceLT, Nat.reduceEqDiff, reduceIte, reduceCtorEq, Int.reduceBEq, Int.reduceBNe, Int.reduceLT, Int.reduceLE, Int.reduceGT, Int.reduceGE, Int.reduceEq, Int.reduceAdd, Int.reduceSub, Int.reduceMul, Nat.reduceMul, Nat.reduceSub, Nat.reduceLeDiff, k_law6_ValueFact_p1, f1, f5, l1, hlv, hlt, hl6]; rfl) ?_
      exact exit _ _ _ ⟨_, i, v, S, out, (by simp only [go_sem, eRun_exit, Nat.reduceAdd, Nat.reduceLT, Nat.reduceEqDiff, reduceIte, reduceCtorEq, Int.reduceBEq, Int.reduceBNe, Int.reduceLT, Int.reduceLE, Int.reduceGT, Int.reduceGE, Int.reduceEq, Int.reduceAdd, Int.reduceSub, Int.reduceMul, Nat.reduceMul, Nat.reduceSub, Nat.reduceLeDiff, f1] <;> rfl), (by simp only [go_sem, eRun_exit, Nat.reduceAdd, Nat.reduceLT, Nat.reduceEqDiff, reduceIte, reduceCtorEq, Int.reduceBEq, Int.reduceBNe, Int.reduceLT, Int.reduceLE, Int.reduceGT, Int.reduceGE, Int.reduceEq, Int.reduceAdd, Int.reduceSub, Int.reduceMul, Nat.reduceMul, Nat.reduceSub, Nat.reduceLeDiff, f4] <;> rfl), (by simp only [go_sem, eRun_exit, Nat.reduceAdd, Nat.reduceLT, Nat.reduceEqDiff, reduceIte, reduceCtorEq, Int.reduceBEq, Int.reduceBNe, Int.reduceLT, Int.reduceLE, Int.reduceGT, Int.reduceGE, Int.reduceEq, Int.reduceAdd, Int.reduceSub, Int.reduceMul, Nat.reduceMul, Nat.reduceSub, Nat.reduceLeDiff, f5] <;> rfl), hW, hi, h6, hol, rfl⟩ rfl
    obtain ⟨t, ht⟩ : ∃ t, args[i]? = some t := ⟨_, List.getElem?_eq_getElem hlt⟩
    obtain ⟨b, o, c, rfl, hTb, hbl, a3⟩ := tks_at hrw ht
    have hwr : IntKind.wrap .i64 (Int.ofNat i + 1) = Int.ofNat (i + 1) := wrap_succ (by omega)
    refine WS_run 1000 (by simp only [go_sem, eRun_exit, Nat.reduceAdd, Nat.reduceLT, Nat.reduceEqDiff, reduceIte, reduceCtorEq, Int.reduceBEq, Int.reduceBNe, Int.reduceLT, Int.reduceLE, Int.reduceGT, Int.reduceGE, Int.reduceEq, Int.reduceAdd, Int.reduceSub, Int.reduceMul, Nat.reduceMul, Nat.reduceSub, Nat.reduceLeDiff, k_law6_ValueFact_p1, k_law6_ValueFact_p0, f1, f5, l1, hlv, hlt, hl6, a3]; rfl) ?_
    refine WS_call (by simp only [go_sem, eRun_exit, Nat.reduceAdd, Nat.reduceLT, Nat.reduceEqDiff, reduceIte, reduceCtorEq, Int.reduceBEq, Int.reduceBNe, Int.reduceLT, Int.reduceLE, Int.reduceGT, Int.reduceGE, Int.reduceEq, Int.reduceAdd, Int.reduceSub, Int.reduceMul, Nat.reduceMul, Nat.reduceSub, Nat.reduceLeDiff]) (by simp only [go_sem, eRun_exit, Nat.reduceAdd, Nat.reduceLT, Nat.reduceEqDiff, reduceIte, reduceCtorEq, Int.reduceBEq, Int.reduceBNe, Int.reduceLT, Int.reduceLE, Int.reduceGT, Int.reduceGE, Int.reduceEq, Int.reduceAdd, Int.reduceSub, Int.reduceMul, Nat.reduceMul, Nat.reduceSub, Nat.reduceLeDiff]; rfl) ?_
    refine cutT_ok C fun w3 g3 => ?_
    have hk := cut_tk (hby t (List.mem_of_getElem? ht))
    generalize tkCut t = t' at *
    obtain ⟨w4, s4, c4, g4, n4⟩ := boxed w3 (zs := [V.int .i64 0, V.str [], V.int .i64 0]) (vs := tkC t') rfl rfl
    have k4 := c4.all (n := 3) rfl
    refine WS_run 1000 (by simp only [go_sem, eRun_exit, Nat.reduceAdd, Nat.reduceLT, Nat.reduceEqDiff, reduceIte, reduceCtorEq, Int.reduceBEq, Int.reduceBNe, Int.reduceLT, Int.reduceLE, Int.reduceGT, Int.reduceGE, Int.reduceEq, Int.reduceAdd, Int.reduceSub, Int.reduceMul, Nat.reduceMul, Nat.reduceSub, Nat.reduceLeDiff, s4, tkC_len, k4]; rfl) ?_
    refine WS_call (by simp only [go_sem, eRun_exit, Nat.reduceAdd, Nat.reduceLT, Nat.reduceEqDiff, reduceIte, reduceCtorEq, Int.reduceBEq, Int.reduceBNe, Int.reduceLT, Int.reduceLE, Int.reduceGT, Int.reduceGE, Int.reduceEq, Int.reduceAdd, Int.reduceSub, Int.reduceMul, Nat.reduceMul, Nat.reduceSub, Nat.reduceLeDiff]) (by simp only [go_sem, eRun_exit, Nat.reduceAdd, Nat.reduceLT, Nat.reduceEqDiff, reduceIte, reduceCtorEq, Int.reduceBEq, Int.reduceBNe, Int.reduceLT, Int.reduceLE, Int.reduceGT, Int.reduceGE, Int.reduceEq, Int.reduceAdd, Int.reduceSub, Int.reduceMul, Nat.reduceMul, Nat.reduceSub, Nat.reduceLeDiff]; rfl) ?_
    refine mayTerm_ok C hk fun w5 g5 => ?_
    have c5 := c4.frm g5 fun h => h
    have k5 := c5.all (n := 3) rfl
    cases hm : tkMay t' with
    | false =>
      refine WS_run 1000 (by simp only [go_sem, eRun_exit, Nat.reduceAdd, Nat.reduceLT, Nat.reduceEqDiff, reduceIte, reduceCtorEq, Int.reduceBEq, Int.reduceBNe, Int.reduceLT, Int.reduceLE, Int.reduceGT, Int.reduceGE, Int.reduceEq, Int.reduceAdd, Int.reduceSub, Int.reduceMul, Nat.reduceMul, Nat.reduceSub, Nat.reduceLeDiff]; rfl) ?_
      refine WS_ret ⟨_, by simp only [go_sem, eRun_exit, Nat.reduceAdd, Nat.reduceLT, Nat.reduceEqDiff, reduceIte, reduceCtorEq, Int.reduceBEq, Int.reduceBNe, Int.reduceLT, Int.reduceLE, Int.reduceGT, Int.reduceGE, Int.reduceEq, Int.reduceAdd, Int.reduceSub, Int.reduceMul, Nat.reduceMul, Nat.reduceSub, Nat.reduceLeDiff, k_law6_ValueFact]; rfl, ?_⟩
      exact ⟨rfl, ((hW.f.tr g3).tr g4).tr g5⟩
    | true =>
    have hW5 := ((hW.step g3).step g4).step g5
    have g6 := fresh_frm (S := fun _ => False) w5 (tkC t')
    have hW6 := hW5.step g6
    have hel : (w5.fresh (tkC t')).elems 3 (.slice w5.next 0 1 (.known 1)) = some (1, tkC t') := elems_fresh (by omega) rfl
    have hov : over [V.int .i64 0, V.str [], V.int .i64 0] 0 (tkC t') = some (tkC t') := rfl
    obtain ⟨v', w7, S7, u1, u2, u3, u4⟩ := hW6.b.addN (news := tkC t') (k := 1) (bytes := 32) (by omega) rfl rfl (by have := hW.len; omega) (by have := hW.len; omega)
    refine WS_run 1000 (by simp only [go_sem, eRun_exit, Nat.reduceAdd, Nat.reduceLT, Nat.reduceEqDiff, reduceIte, reduceCtorEq, Int.reduceBEq, Int.reduceBNe, Int.reduceLT, Int.reduceLE, Int.reduceGT, Int.reduceGE, Int.reduceEq, Int.reduceAdd, Int.reduceSub, Int.reduceMul, Nat.reduceMul, Nat.reduceSub, Nat.reduceLeDiff, f4, k5, tkC_len, evParts, fillV, hov, List.length_cons, List.length_nil, hel, u1, f5, hwr]; rfl) ?_
    have n6 : (w5.fresh (tkC t')).next = w5.next + 1 := rfl
    have hx : aw.next < w5.next := by have := hW5.a.lt; omega
    refine ih _ _ _ (by omega) ⟨i + 1, v', S7, out ++ [t'], (by simp only [go_sem, eRun_exit, Nat.reduceAdd, Nat.reduceLT, Nat.reduceEqDiff, reduceIte, reduceCtorEq, Int.reduceBEq, Int.reduceBNe, Int.reduceLT, Int.reduceLE, Int.reduceGT, Int.reduceGE, Int.reduceEq, Int.reduceAdd, Int.reduceSub, Int.reduceMul, Nat.reduceMul, Nat.reduceSub, Nat.reduceLeDiff, f1] <;> rfl), (by simp only [go_sem, eRun_exit, Nat.reduceAdd, Nat.reduceLT, Nat.reduceEqDiff, reduceIte, reduceCtorEq, Int.reduceBEq, Int.reduceBNe, Int.reduceLT, Int.reduceLE, Int.reduceGT, Int.reduceGE, Int.reduceEq, Int.reduceAdd, Int.reduceSub, Int.reduceMul, Nat.reduceMul, Nat.reduceSub, Nat.reduceLeDiff] <;> rfl), (by simp only [go_sem, eRun_exit, Nat.reduceAdd, Nat.reduceLT, Nat.reduceEqDiff, reduceIte, reduceCtorEq, Int.reduceBEq, Int.reduceBNe, Int.reduceLT, Int.reduceLE, Int.reduceGT, Int.reduceGE, Int.reduceEq, Int.reduceAdd, Int.reduceSub, Int.reduceMul, Nat.reduceMul, Nat.reduceSub, Nat.reduceLeDiff] <;> rfl), ⟨hW6.a.frm u3 (fun h => by have := (hW6.s _ h).1; omega), ?_, fun x hx => ?_, hW6.f.trans u3 (fun _ _ h => h) (fun x hx h => by have := (hW6.s x h).1; omega), ?_, by rw [List.length_append, hol]; simp; omega⟩, by omega, by omega, by rw [List.length_append, hol]; rfl, rfl⟩
    · rw [List.length_append]
      have : tksC (out ++ [t']) = tksC out ++ tkC t' := by simp [tksC]
      rw [this]; exact u2
    · obtain ⟨m1, m2⟩ := u4 x hx
      rcases m2 with m2 | m2
      · exact ⟨(hW6.s x m2).1, m1⟩
      · exact ⟨by omega, m1⟩
    · intro t ht
      rcases List.mem_append.1 ht with h | h
      · exact hW.may t h
      · simp only [List.mem_cons, List.not_mem_nil, or_false] at h
        subst h; exact tkPr hm hk.len
  · rintro f w ⟨q, i, v, S, out, f1, f4, f5, hW, hi, h6, hol, hq⟩
    have s3 : w.store aw.next 1 [v] = some (w.put aw.next [.str nm', v]) := hW.a.set (i := 1) (v := v) (by simp) hW.b.one.1
    have c3 : CB _ aw.next _ := put_cb (w := w) (l := [V.str nm', v]) hW.a.lt
    have f3 := put_frm (w := w) (b := aw.next) (l := [V.str nm', v])
    have b3 := hW.b.frm f3 (fun x hx h => by have := (hW.s x hx).1; omega)
    have r3 : Frm (fun _ => False) aw (w.put aw.next [V.str nm', v]) := hW.f.trans f3 (fun _ _ h => h) (by rintro x hx rfl; omega)
    generalize w.put aw.next [V.str nm', v] = w3 at *
    have k0 := CB.ld c3 0 1 _ rfl
    have k1 := CB.ld c3 1 1 _ rfl
    have k2 := CB.ld c3 0 2 _ rfl
    refine WS_run 1000 (by simp only [go_sem, eRun_exit, Nat.reduceAdd, Nat.reduceLT, Nat.reduceEqDiff, reduceIte, reduceCtorEq, Int.reduceBEq, Int.reduceBNe, Int.reduceLT, Int.reduceLE, Int.reduceGT, Int.reduceGE, Int.reduceEq, Int.reduceAdd, Int.reduceSub, Int.reduceMul, Nat.reduceMul, Nat.reduceSub, Nat.reduceLeDiff, f1, f4, s3, hW.b.one.2, List.length_cons, List.length_nil]; rfl) ?_
    refine WS_drawn ?_
    refine WDs_run 100 (by simp only [go_sem, eRun_exit, Nat.reduceAdd, Nat.reduceLT, Nat.reduceEqDiff, reduceIte, reduceCtorEq, Int.reduceBEq, Int.reduceBNe, Int.reduceLT, Int.reduceLE, Int.reduceGT, Int.reduceGE, Int.reduceEq, Int.reduceAdd, Int.reduceSub, Int.reduceMul, Nat.reduceMul, Nat.reduceSub, Nat.reduceLeDiff, f1, k2]; rfl) ?_
    refine WDs_call (by simp only [go_sem, eRun_exit, Nat.reduceAdd, Nat.reduceLT, Nat.reduceEqDiff, reduceIte, reduceCtorEq, Int.reduceBEq, Int.reduceBNe, Int.reduceLT, Int.reduceLE, Int.reduceGT, Int.reduceGE, Int.reduceEq, Int.reduceAdd, Int.reduceSub, Int.reduceMul, Nat.reduceMul, Nat.reduceSub, Nat.reduceLeDiff]) (by simp only [go_sem, eRun_exit, Nat.reduceAdd, Nat.reduceLT, Nat.reduceEqDiff, reduceIte, reduceCtorEq, Int.reduceBEq, Int.reduceBNe, Int.reduceLT, Int.reduceLE, Int.reduceGT, Int.reduceGE, Int.reduceEq, Int.reduceAdd, Int.reduceSub, Int.reduceMul, Nat.reduceMul, Nat.reduceSub, Nat.reduceLeDiff]; rfl) ?_
    refine fact_ok C F b3.rd (by have := hW.len; omega) hnm hW.may fun w4 g4 => ?_
    have c4 := c3.frm g4 fun h => h
    have j0 := CB.ld c4 0 1 _ rfl
    have j1 := CB.ld c4 1 1 _ rfl
    refine WDs_run 100 (by simp only [go_sem, eRun_exit, Nat.reduceAdd, Nat.reduceLT, Nat.reduceEqDiff, reduceIte, reduceCtorEq, Int.reduceBEq, Int.reduceBNe, Int.reduceLT, Int.reduceLE, Int.reduceGT, Int.reduceGE, Int.reduceEq, Int.reduceAdd, Int.reduceSub, Int.reduceMul, Nat.reduceMul, Nat.reduceSub, Nat.reduceLeDiff, f1, j0, j1]; rfl) ?_
    refine WDs_call (by simp only [go_sem, eRun_exit, Nat.reduceAdd, Nat.reduceLT, Nat.reduceEqDiff, reduceIte, reduceCtorEq, Int.reduceBEq, Int.reduceBNe, Int.reduceLT, Int.reduceLE, Int.reduceGT, Int.reduceGE, Int.reduceEq, Int.reduceAdd, Int.reduceSub, Int.reduceMul, Nat.reduceMul, Nat.reduceSub, Nat.reduceLeDiff]) (by simp only [go_sem, eRun_exit, Nat.reduceAdd, Nat.reduceLT, Nat.reduceEqDiff, reduceIte, reduceCtorEq, Int.reduceBEq, Int.reduceBNe, Int.reduceLT, Int.reduceLE, Int.reduceGT, Int.reduceGE, Int.reduceEq, Int.reduceAdd, Int.reduceSub, Int.reduceMul, Nat.reduceMul, Nat.reduceSub, Nat.reduceLeDiff]; rfl) ?_
    refine rAtom_ok C (b3.rd.frm g4 fun _ _ h => h) (by have := hW.len; omega) hnm hW.may fun w5 g5 => ?_
    refine WDs_run 100 (by simp only [go_sem, eRun_exit, Nat.reduceAdd, Nat.reduceLT, Nat.reduceEqDiff, reduceIte, reduceCtorEq, Int.reduceBEq, Int.reduceBNe, Int.reduceLT, Int.reduceLE, Int.reduceGT, Int.reduceGE, Int.reduceEq, Int.reduceAdd, Int.reduceSub, Int.reduceMul, Nat.reduceMul, Nat.reduceSub, Nat.reduceLeDiff, strS, eqL_refl]; rfl) ?_
    refine WDs_nil ⟨(show chkAll _ _ [(3, 1), (5, 1)] from by simp only [go_sem, eRun_exit, Nat.reduceAdd, Nat.reduceLT, Nat.reduceEqDiff, reduceIte, reduceCtorEq, Int.reduceBEq, Int.reduceBNe, Int.reduceLT, Int.reduceLE, Int.reduceGT, Int.reduceGE, Int.reduceEq, Int.reduceAdd, Int.reduceSub, Int.reduceMul, Nat.reduceMul, Nat.reduceSub, Nat.reduceLeDiff, chkAll, chk, List.reverse_cons, List.reverse_nil, mkStp_fe, mkStp_v, mkStp_0, mkStp_1, List.getElem?_nil, false_or, or_true, or_false, exists_eq', Option.some.injEq, Prod.mk.injEq, Bool.true_eq_false, Bool.false_eq_true, and_true, true_and, implies_true,  f1, k0, k1, j0, j1]), ?_⟩
    refine WS_ret ⟨_, by simp only [go_sem, eRun_exit, Nat.reduceAdd, Nat.reduceLT, Nat.reduceEqDiff, reduceIte, reduceCtorEq, Int.reduceBEq, Int.reduceBNe, Int.reduceLT, Int.reduceLE, Int.reduceGT, Int.reduceGE, Int.reduceEq, Int.reduceAdd, Int.reduceSub, Int.reduceMul, Nat.reduceMul, Nat.reduceSub, Nat.reduceLeDiff, k_law6_ValueFact]; rfl, ?_⟩
    exact ⟨rfl, (r3.tr g4).tr g5⟩
end Go.Proofs.YtjidefnbancmfaaDoor

/- The seat's table: what strconv.FormatInt does, and the law's beginning, carried out. -/
set_option linter.unusedVariables false
set_option maxRecDepth 100000
namespace Go.Proofs.YtjidefnbancmfaaDoor
open Go.AE Go.RowKit Go.Shelf
def zFormat_ren : Go.Shelf.Ren := ⟨fun | 173 => 27 | 246 => 29 | 283 => 30 | 284 => 31 | 285 => 32 | 286 => 33 | 129 => 35 | 317 => 34 | 318 => 36 | 319 => 37 | 320 => 38 | 337 => 39 | 338 => 40 | n => n, fun | 2 => 2 | 3 => 3 | 9 => 9 | 4 => 4 | 171 => 52 | 0 => 0 | 53 => 53 | 37 => 50 | 5 => 5 | 173 => 56 | 212 => 60 | 51 => 61 | 20 => 20 | 213 => 62 | 46 => 64 | 232 => 67 | 233 => 68 | n => n, fun | 17 => 0 | 18 => 1 | 19 => 2 | n => n⟩
theorem zFormat : Go.Proofs.LaysM.n173 Tryd.prog zFormat_ren where
  mixed := by kernel_rfl
  f129 := Tryd.func35.trans (congrArg some (by kernel_rfl))
  f173 := Tryd.func27.trans (congrArg some (by kernel_rfl))
  f246 := Tryd.func29.trans (congrArg some (by kernel_rfl))
  f283 := Tryd.func30.trans (congrArg some (by kernel_rfl))
  f284 := Tryd.func31.trans (congrArg some (by kernel_rfl))
  f285 := Tryd.func32.trans (congrArg some (by kernel_rfl))
  f286 := Tryd.func33.trans (congrArg some (by kernel_rfl))
  f317 := Tryd.func34.trans (congrArg some (by kernel_rfl))
  f318 := Tryd.func36.trans (congrArg some (by kernel_rfl))
  f319 := Tryd.func37.trans (congrArg some (by kernel_rfl))
  f320 := Tryd.func38.trans (congrArg some (by kernel_rfl))
  f337 := Tryd.func39.trans (congrArg some (by kernel_rfl))
  f338 := Tryd.func40.trans (congrArg some (by kernel_rfl))
  t0 := Tryd.underlying0
  a0 := Tryd.isAgg0
  z0 := Tryd.sizeOf0
  v0 := Tryd.zeroValue0
  t2 := Tryd.underlying2
  a2 := Tryd.isAgg2
  z2 := Tryd.sizeOf2
  v2 := Tryd.zeroValue2
  t3 := Tryd.underlying3
  a3 := Tryd.isAgg3
  z3 := Tryd.sizeOf3
  v3 := Tryd.zeroValue3
  t4 := Tryd.underlying4
  a4 := Tryd.isAgg4
  z4 := Tryd.sizeOf4
  v4 := Tryd.zeroValue4
  t5 := Tryd.underlying5
  a5 := Tryd.isAgg5
  z5 := Tryd.sizeOf5
  v5 := Tryd.zeroValue5
  t9 := Tryd.underlying9
  a9 := Tryd.isAgg9
  z9 := Tryd.sizeOf9
  v9 := Tryd.zeroValue9
  t20 := Tryd.underlying20
  a20 := Tryd.isAgg20
  z20 := Tryd.sizeOf20
  v20 := Tryd.zeroValue20
  t37 := Tryd.underlying50
  a37 := Tryd.isAgg50
  z37 := Tryd.sizeOf50
  v37 := Tryd.zeroValue50
  t46 := Tryd.underlying64
  a46 := Tryd.isAgg64
  z46 := Tryd.sizeOf64
  v46 := Tryd.zeroValue64
  t51 := Tryd.underlying61
  a51 := Tryd.isAgg61
  z51 := Tryd.sizeOf61
  v51 := Tryd.zeroValue61
  t53 := Tryd.underlying53
  a53 := Tryd.isAgg53
  z53 := Tryd.sizeOf53
  v53 := Tryd.zeroValue53
  t171 := Tryd.underlying52
  a171 := Tryd.isAgg52
  z171 := Tryd.sizeOf52
  v171 := Tryd.zeroValue52
  t173 := Tryd.underlying56
  a173 := Tryd.isAgg56
  z173 := Tryd.sizeOf56
  v173 := Tryd.zeroValue56
  t212 := Tryd.underlying60
  a212 := Tryd.isAgg60
  z212 := Tryd.sizeOf60
  v212 := Tryd.zeroValue60
  t213 := Tryd.underlying62
  a213 := Tryd.isAgg62
  z213 := Tryd.sizeOf62
  t232 := Tryd.underlying67
  a232 := Tryd.isAgg67
  z232 := Tryd.sizeOf67
  v232 := Tryd.zeroValue67
  t233 := Tryd.underlying68
  a233 := Tryd.isAgg68
  z233 := Tryd.sizeOf68
  v233 := Tryd.zeroValue68
  g17 := by kernel_rfl
  g18 := by kernel_rfl
  g19 := by kernel_rfl
  i0 := by kernel_rfl
  i2 := by kernel_rfl
  i3 := by kernel_rfl
  i4 := by kernel_rfl
  i5 := by kernel_rfl
  i9 := by kernel_rfl
  i20 := by kernel_rfl
  i37 := by kernel_rfl
  i46 := by kernel_rfl
  i51 := by kernel_rfl
  i53 := by kernel_rfl
  i171 := by kernel_rfl
  i173 := by kernel_rfl
  i212 := by kernel_rfl
  i232 := by kernel_rfl
  i233 := by kernel_rfl
  m17 := by kernel_rfl
  m18 := by kernel_rfl
  m19 := by kernel_rfl
theorem var_at {w : World} {l : List Value} : (∃ t fz, w.heap[0]? = some (.cells l.toArray t fz)) ↔ w.var? Tryd.prog "internal/strconv.uint64pow10" = some l.toArray := by
  have hg : Tryd.prog.globalNamed "internal/strconv.uint64pow10" = some 0 := by kernel_rfl
  unfold World.var?
  rw [hg]
  constructor
  · rintro ⟨t, fz, h⟩
    simp [h]
  · intro h
    simp only [Option.bind_some] at h
    split at h
    · rename_i cs t fz hh
      cases h
      exact ⟨t, fz, hh⟩
    · cases h
theorem formats : FormatsAt Tryd.prog 27 0 := by
  intro n w h0 h1 hh
  have htab : Lib.TabIs Tryd.prog w "internal/strconv.uint64pow10" .u64 Lib.pow10Tab := by
    unfold Lib.TabIs
    exact var_at.1 hh
  refine (Any.strconv_FormatInt_10 zFormat n h0 h1 w htab).mono ?_
  rintro e w' ⟨rfl, k, os, rfl⟩
  exact ⟨rfl, Lib.below_grow _ _ (Nat.le_refl _) k os⟩
def baseT (P : Program) : XTab where
  code := (XTab.of P).code
  prim f args aw := match f with
    | 27 => formatI args aw
    | _ => Option.none
  ext f args aw := Option.none
theorem base_ok : TabOK Tryd.prog (baseT Tryd.prog).tab where
  mixed := by kernel_rfl
  code := (XTab.of_ok (P := Tryd.prog) (by kernel_rfl)).code
  prim f args aw v aw' h := by
    simp only [XTab.tab, baseT] at h
    split at h
    · exact ⟨⟨_, Tryd.func27, by kernel_rfl, by decide +kernel⟩, fun w m base args' hR hargs => formatI_ok formats rfl h w m base args' hR hargs⟩
    · cases h
  ext f args aw v aw' h := by cases h
theorem run7 : isTrue (xCall (baseT Tryd.prog) (xRunK (baseT Tryd.prog) 100000) 7 [] AW.start) = true := by kernel_rfl
end Go.Proofs.YtjidefnbancmfaaDoor

/- The seat's table with the law's beginning; the variable that is listed. -/
set_option linter.unusedVariables false
namespace Go.Proofs.YtjidefnbancmfaaDoor
open Go.AE Go.RowKit
theorem vrs_ints {m : Map} : ∀ {l : List V}, (∀ x ∈ l, ∃ k n, x = .int k n) → VRs m l (l.map toValI)
  | [], _ => rfl
  | x :: l, h => by
    obtain ⟨k, n, rfl⟩ := h x (by simp)
    exact ⟨_, _, rfl, rfl, vrs_ints fun y hy => h y (by simp [hy])⟩
theorem pow_ints : ∀ x ∈ pow10V, ∃ k n, x = .int k n := by
  intro x hx
  simp only [pow10V, List.mem_cons, List.not_mem_nil, or_false] at hx
  rcases hx with rfl | rfl | rfl | rfl | rfl | rfl | rfl | rfl | rfl | rfl | rfl | rfl | rfl | rfl | rfl | rfl | rfl | rfl | rfl | rfl <;> exact ⟨_, _, rfl⟩
theorem globs_one {w : World} (h : ∃ t fz, w.heap[0]? = some (.cells (pow10V.map toValI).toArray t fz)) : GlobsAre w := by
  intro i g l hi
  obtain ⟨t, fz, h⟩ := h
  cases i with
  | zero =>
    cases hi
    exact ⟨_, t, fz, h, vrs_ints pow_ints⟩
  | succ i => cases hi
theorem globs_of {aw : AW} {w : World} {m : Map} {base : Nat} (hR : R aw w m base) : GlobsAre w := by
  refine globs_one ?_
  have hg : Globs.gl[0]? = some (0, pow10V) := rfl
  obtain ⟨cur, t, lo, hi, p1, p2, p3, p4, p5⟩ := hR.blk 0 _ _ (hR.glob 0 0 _ hg) (hR.gblk 0 0 _ hg) rfl
  have hcur : cur.toList = pow10V.map toValI := by
    refine ints_are (m := m) pow_ints (by rw [Array.length_toList]; exact p2) (fun i x hx => ?_)
    obtain ⟨y, q1, q2⟩ := p5 i x hx
    exact ⟨y, by simpa using q1, q2⟩
  exact ⟨t, (lo, hi), by rw [p1, ← hcur]⟩
theorem begun_good (aw : AW) : GoodC Tryd.prog 7 [] aw (.bool true) aw := by
  refine ⟨⟨_, Tryd.func7, by kernel_rfl, by decide +kernel⟩, fun w m base args' hR hargs => ?_⟩
  have hz : args' = #[] := by cases args'; cases hargs; rfl
  subst hz
  refine (closed_ok base_ok (runK_true run7) w (globs_of hR)).mono ?_
  rintro e w' ⟨rfl, hb⟩
  obtain ⟨h1, h2⟩ := hR.below hb
  exact ⟨.bool true, m, rfl, rfl, h1, h2⟩
def tabV (P : Program) : Tab where
  code := (XTab.of P).code
  prim f args aw v aw' := (baseT P).tab.prim f args aw v aw' ∨ (f = 7 ∧ args = [] ∧ v = .bool true ∧ aw' = aw)
  ext := (baseT P).tab.ext
theorem tabV_ok : TabOK Tryd.prog (tabV Tryd.prog) where
  mixed := base_ok.mixed
  code := base_ok.code
  prim f args aw v aw' h := by
    rcases h with h | ⟨rfl, rfl, rfl, rfl⟩
    · exact base_ok.prim f args aw v aw' h
    · exact begun_good _
  ext := base_ok.ext
theorem codesV : Codes (tabV Tryd.prog) := codesOf rfl
theorem beginsV : Begins (tabV Tryd.prog) := fun aw => .prim (.inr ⟨rfl, rfl, rfl, rfl⟩)
theorem formatsV : Formats (tabV Tryd.prog) := fun n aw h1 h2 => .prim (.inl (by
  show formatI [.int .i64 n, .int .i64 10] aw = some (.str (fmtI n), aw)
  simp only [formatI]
  rw [if_pos ⟨h1, h2⟩]))
theorem allRo_start {b : Nat} {x : Blk} (h : AW.start.heap.get b = some x) : ∃ l, x = .cells l .ro := by
  obtain ⟨_, _, l, _, _, h3⟩ := gblocks_get (k := 0) h
  exact ⟨l, h3⟩
theorem globs_laid {w : World} {l : List (String × DataW Unit)} (hf : (l.filter fun x => x.2.handleName?.isSome) = []) (hl : laidMetH Tryd.prog l w)
    (hm : ("internal/strconv.uint64pow10", Lib.tabData .u64 Lib.pow10Tab) ∈ l) : GlobsAre w := by
  unfold laidMetH at hl
  rw [hf] at hl
  obtain ⟨ps, hv, _⟩ := hl
  have go : ∀ {l : List (String × DataW Unit)} {ps : List MemPlace}, DataW.LaidVars Tryd.prog w l ps → ("internal/strconv.uint64pow10", Lib.tabData .u64 Lib.pow10Tab) ∈ l → GlobsAre w := by
    intro l
    induction l with
    | nil => intro ps _ h; cases h
    | cons x l ih =>
      intro ps h hm
      obtain ⟨n, d⟩ := x
      obtain ⟨g, t, cs, fuel, p, q, h1, h2, h3, h4, h5, _⟩ := h
      rcases List.mem_cons.1 hm with e | e
      · cases e
        have hg : Tryd.prog.globalNamed "internal/strconv.uint64pow10" = some 0 := by kernel_rfl
        rw [hg] at h1
        cases h1
        have ht : (Tryd.prog.globals[0]?).map (·.type) = some 60 := by kernel_rfl
        rw [ht] at h2
        cases h2
        have := Lib.cells_of_tab Tryd.underlying60 Tryd.underlying53 (by kernel_rfl) (by kernel_rfl) h4
        refine globs_one ?_
        have hx := (var_at (l := cs.toList)).2 (by simpa using h3)
        rw [this] at hx
        exact hx
      · exact ih h5 e
  exact go hv hm
end Go.Proofs.YtjidefnbancmfaaDoor

/- Terms and lists of terms, as they are handed. -/
set_option linter.unusedVariables false
namespace Go.Proofs.YtjidefnbancmfaaDoor
open Go.AE Go.RowKit Delphi
abbrev TP : Type := Int × List Nat × Int × Unit
def TermR (aw : AW) (p : TP) (xs : List V) : Prop := ∃ x1 x2, xs = x1 ++ x2 ∧ (x1 = [.int .i64 p.1] ∧ (Lit.int .i64 p.1).wf = true) ∧ ∃ x3 x4, x2 = x3 ++ x4 ∧ (x3 = [.str p.2.1] ∧ (∀ c ∈ p.2.1, c < 256) ∧ p.2.1.length ≤ maxLen) ∧ ∃ x5 x6, x4 = x5 ++ x6 ∧ (x5 = [.int .i64 p.2.2.1] ∧ (Lit.int .i64 p.2.2.1).wf = true) ∧ x6 = []
theorem opnT {H : Type} {enc : TypeId × Value → H} {W : World} : Opens enc Tryd.prog W 27 TP TermR :=
  opens_struct Tryd.underlying27 rfl (by kernel_rfl) (opensF_cons (k := 1) (opens_int Tryd.underlying3 (by kernel_rfl)) (by kernel_rfl) rfl (opensF_cons (k := 1) (opens_str Tryd.underlying9 (by kernel_rfl)) (by kernel_rfl) rfl (opensF_cons (k := 1) (opens_int Tryd.underlying2 (by kernel_rfl)) (by kernel_rfl) rfl opensF_nil)))
def toTk (p : TP) : Tk := ⟨p.1, p.2.1, p.2.2.1⟩
theorem termR_c {aw : AW} {p : TP} {xs : List V} (h : TermR aw p xs) : xs = tkC (toTk p) ∧ ∀ c ∈ (toTk p).s, c < 256 := by
  obtain ⟨x1, x2, rfl, ⟨rfl, _⟩, x3, x4, rfl, ⟨rfl, hb, _⟩, x5, x6, rfl, ⟨rfl, _⟩, rfl⟩ := h
  exact ⟨rfl, hb⟩
theorem terms_c {aw : AW} : ∀ {l : List TP} {xss : List (List V)}, All2 (TermR aw) l xss → xss.flatten = tksC (l.map toTk) ∧ ∀ t ∈ l.map toTk, ∀ c ∈ t.s, c < 256
  | [], _, .nil => ⟨rfl, by simp⟩
  | p :: l, _, .cons h1 h => by
    obtain ⟨g1, g2⟩ := terms_c h
    obtain ⟨g3, g4⟩ := termR_c h1
    refine ⟨?_, ?_⟩
    · rw [List.flatten_cons, g1, g3]; rfl
    · intro t ht
      rcases List.mem_cons.1 (by simpa using ht : t ∈ toTk p :: l.map toTk) with rfl | h
      · exact g4
      · exact g2 t h
theorem capfit {n esz : Nat} {c : Cap} (h : CapOk n c) : CapFit esz n c := by
  cases c with
  | known k => exact h
  | upTo z => exact .inr h
theorem terms_rd {aw : AW} {l : List TP} {x : V} (h : SliceR TermR aw l [x]) : Rd (fun b => b < aw.next) aw x 3 (l.map toTk).length (tksC (l.map toTk)) ∧ (∀ t ∈ l.map toTk, ∀ c ∈ t.s, c < 256) ∧ l.length ≤ maxLen := by
  rw [List.length_map]
  rcases h with ⟨h1, rfl⟩ | ⟨b, c, xss, h1, hb, hg, ha, hl, hc⟩
  · cases h1; exact ⟨.nil, by simp, Nat.zero_le _⟩
  · cases h1
    obtain ⟨g1, g2⟩ := terms_c ha
    have hz : (tksC (l.map toTk)).length = l.length * 3 := by rw [tksC_len, List.length_map]
    rw [g1] at hg
    exact ⟨.blk hb hb hg (.inr (.inr (.inl rfl))) (by omega) (by rw [List.drop_zero, List.take_of_length_le (by omega)]) (capfit hc), g2, hl⟩
theorem dum_of {w : World} (h : GlobsAre w) : ∃ cur ty lo hi, w.heap[0]? = some (.cells cur ty (lo, hi)) := by
  obtain ⟨cur, t, fz, h1, _⟩ := h 0 0 _ rfl
  exact ⟨cur, t, fz.1, fz.2, h1⟩
theorem slice_one {α : Type} {rel : AW → α → List V → Prop} {aw : AW} {l : List α} {xs : List V} (h : SliceR rel aw l xs) : ∃ x, xs = [x] ∧ allOne [x] = true := by
  rcases h with ⟨h1, _⟩ | ⟨b, c, xss, h1, _⟩ <;> subst h1 <;> exact ⟨_, rfl, rfl⟩
end Go.Proofs.YtjidefnbancmfaaDoor
