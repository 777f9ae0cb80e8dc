/- A part of the proof: PVal8, PPar8, PChk1, PPar9, PChk2, PChk3, PChk4, PChk5, PChk6, PChk7, PChk8, PChk9, PChk10, PChk11, PChk12, PPar10, PPar11, STab2, PPar12, PVal9, XLex2, XTok, XPrs. -/
import Derived.Test.YtegdcbdicpfbpaaGreatDoorSgL
import Derived.Test.YtegdcbdicpfbpaaGreatDoorSgK
import Derived.Test.YtegdcbdicpfbpaaGreatDoorSgH
import Derived.Test.YtegdcbdicpfbpaaGreatDoorSgG
set_option linter.unusedVariables false
set_option maxRecDepth 10000
set_option linter.unusedSimpArgs false
namespace Go.Proofs.YtegdcbdicpfbpaaGreatDoor.Val
open Go.AE Delphi
variable {tab : Tab}
def prT (t : Tk) : List Nat := if t.k = 3 then fmtI t.n else t.s
def qS : List Tk → List Nat
  | [] => []
  | t :: r => prT t ++ r.flatMap fun u => [44, 32] ++ prT u
theorem qS_snoc (l : List Tk) (t : Tk) (h : l ≠ []) : qS (l ++ [t]) = qS l ++ [44, 32] ++ prT t := by
  cases l with
  | nil => exact (h rfl).elim
  | cons x l => simp [qS, List.append_assoc]
def preS (name : List Nat) (l : List Tk) : List Nat := match l with | [] => name | l => name ++ [40] ++ qS l
def atomS (name : List Nat) (l : List Tk) : List Nat := match l with | [] => name | l => name ++ [40] ++ qS l ++ [41]
structure TkPr (t : Tk) : Prop where
  num : t.n.natAbs ≤ 2147483648
  len : (prT t).length ≤ 3000000000
theorem decN_len : ∀ (n m : Nat), m ≤ n → 1 ≤ m → (decN m).length ≤ m
  | 0, m, h1, h2 => by omega
  | n + 1, m, h1, h2 => by
    by_cases h : m < 10
    · rw [decN_small h]; simpa using h2
    · rw [decN_step h, List.length_append]
      have := decN_len n (m / 10) (by omega) (by omega)
      simp only [List.length_cons, List.length_nil]; omega
theorem tkPr {t : Tk} (h : tkMay t = true) (hl : t.s.length ≤ 1000000) : TkPr t := by
  refine ⟨okc_num h, ?_⟩
  have hn := okc_num h
  unfold prT
  split
  · cases ht : t.n with
    | ofNat m =>
      rw [ht] at hn
      have hn : m ≤ 2147483648 := hn
      show (decN m).length ≤ _
      by_cases h0 : m = 0
      · subst h0; rw [decN_small (by omega)]; simp
      · have := decN_len m m (by omega) (by omega); omega
    | negSucc m =>
      rw [ht] at hn
      have hn : m + 1 ≤ 2147483648 := hn
      show (45 :: decN (m + 1)).length ≤ _
      have := decN_len (m + 1) (m + 1) (by omega) (by omega)
      rw [List.length_cons]; omega
  · omega
theorem qS_len : ∀ (l : List Tk), (∀ t ∈ l, TkPr t) → (qS l).length ≤ l.length * 3000000002 := by
  have h : ∀ (l : List Tk), (∀ t ∈ l, TkPr t) → (l.flatMap fun u => [44, 32] ++ prT u).length ≤ l.length * 3000000002 := by
    intro l
    induction l with
    | nil => intro _; simp
    | cons x l ih =>
      intro h
      have h1 := (h x (by simp)).len
      have h2 := ih fun t ht => h t (by simp [ht])
      rw [List.flatMap_cons, List.length_append, List.length_append, List.length_cons, List.length_cons, List.length_cons, List.length_nil]; omega
  intro l hl
  cases l with
  | nil => simp [qS]
  | cons x l =>
    have h1 := (hl x (by simp)).len
    have h2 := h l fun t ht => hl t (by simp [ht])
    rw [qS, List.length_append, List.length_cons]; omega
def tksC (l : List Tk) : List V := l.flatMap tkC
theorem tks_at {T : Nat → Prop} {w : AW} {v : V} {l : List Tk} (h : Rd T w v 3 l.length (tksC l)) {i : Nat} {t : Tk} (hi : l[i]? = some t) : ∃ b o c, v = .slice b o l.length c ∧ T b ∧ b < w.next ∧ w.load b (o + i * 3) 3 = some (tkC t) := by
  have hlt : i < l.length := (List.getElem?_eq_some_iff.1 hi).1
  rcases h.inv with ⟨_, q2, _⟩ | ⟨b, o, c, rfl, hB⟩
  · omega
  · refine ⟨b, o, c, rfl, hB.own, hB.lt, ?_⟩
    rw [hB.load (i * 3) 3 (by omega)]
    have h2 := flat_part tkC_len (i := i) (j := 0) (k := 3) hi (by omega)
    rw [Nat.zero_add] at h2
    exact congrArg some h2
def AtI (aw : AW) (name : List Nat) (lv : V) (l : List Tk) (q : Nat) (f : Fr) (w : AW) : Prop :=
  ∃ i, f.get 0 = some (.str (preS name (l.take i))) ∧ f.get 1 = some lv ∧ f.get 7 = some lv ∧ f.get 8 = some (.int .i64 (Int.ofNat l.length)) ∧ f.get 9 = some (.int .i64 (Int.ofNat i)) ∧ i ≤ l.length ∧ q = l.length - i ∧ Frm (fun _ => False) aw w
theorem preS_len {name : List Nat} {l : List Tk} (hn : name.length ≤ 1000) (hl : l.length ≤ 1000) (h : ∀ t ∈ l, TkPr t) : (preS name l).length ≤ 4000000000000 := by
  cases l with
  | nil => show name.length ≤ _; omega
  | cons x l =>
    have h2 := qS_len (x :: l) h
    show (name ++ [40] ++ qS (x :: l)).length ≤ _
    rw [List.length_append, List.length_append]
    simp only [List.length_cons, List.length_nil] at h2 hl ⊢; omega
theorem atom_ok (C : Codes tab) (F : Formats tab) {T : Nat → Prop} {aw : AW} {name : List Nat} {lv : V} {l : List Tk} {K : V → AW → Prop} (hl : Rd T aw lv 3 l.length (tksC l)) (hn : l.length ≤ 1000) (hm : name.length ≤ 1000) (hp : ∀ t ∈ l, TkPr t)
    (h : ∀ w, Frm (fun _ => False) aw w → K (.str (atomS name l)) w) : WF tab n_value_Atom [.str name, lv] aw K := by
  refine WF_of C.c_value_Atom rfl ?_
  have hlv := hl.lenV
  refine WS_run 1000 (by simp only [go_sem, eRun_exit, simprocAttr, k_value_Atom, hlv]; rfl) ?_
  refine WS_loopJ (AtI aw name lv l) (AtI aw name lv l 0) ?_ ?_ l.length ⟨0, (by simp only [go_sem, eRun_exit, simprocAttr] <;> rfl), (by simp only [go_sem, eRun_exit, simprocAttr] <;> rfl), (by simp only [go_sem, eRun_exit, simprocAttr] <;> rfl), (by simp only [go_sem, eRun_exit, simprocAttr] <;> rfl), (by simp only [go_sem, eRun_exit, simprocAttr] <;> rfl), by omega, rfl, Frm.refl _⟩
  · rintro q f w ⟨i, f0, f1, f7, f8, f9, hi, rfl, hf⟩ ih exit
    by_cases hlt : i < l.length
    case neg =>
      refine WS_runB 1000 (by simp only [go_sem, simprocAttr, k_value_Atom_p1, f8, f9, hlt]; rfl) ?_
      exact exit _ _ _ ⟨i, (by simp only [go_sem, eRun_exit, simprocAttr, f0] <;> rfl), (by simp only [go_sem, eRun_exit, simprocAttr, f1] <;> rfl), (by simp only [go_sem, eRun_exit, simprocAttr, f7] <;> rfl), (by simp only [go_sem, eRun_exit, simprocAttr, f8] <;> rfl), (by simp only [go_sem, eRun_exit, simprocAttr, f9] <;> rfl), by omega, by omega, hf⟩ rfl
    obtain ⟨t, ht⟩ : ∃ t, l[i]? = some t := ⟨_, List.getElem?_eq_getElem hlt⟩
    obtain ⟨b, o, c, rfl, hTb, hbl, a3⟩ := tks_at (hl.frm hf fun _ _ h => h) ht
    have hwr : IntKind.wrap .i64 (Int.ofNat i + 1) = Int.ofNat (i + 1) := wrap_succ (by omega)
    obtain ⟨w2, s2, c2, r2, n2⟩ := boxed w (zs := [V.int .i64 0, V.str [], V.int .i64 0]) (vs := tkC t) rfl rfl
    have k0 := c2.all (n := 3) rfl
    have htk : l.take (i + 1) = l.take i ++ [t] := by rw [List.take_add_one, ht]; rfl
    have hpt := hp t (List.mem_of_getElem? ht)
    have hpl := preS_len hm (l := l.take i) (by rw [List.length_take]; omega) (fun t ht => hp t (List.mem_of_mem_take ht))
    have hprt := hpt.len
    by_cases h0 : i = 0
    · subst h0
      have f0 : f.get 0 = some (.str name) := f0
      rw [Nat.zero_mul, Nat.add_zero] at a3
      have hadd : strS BinOp.add name [40] = some (.str (name ++ [40])) := by simp only [strS, List.length_cons, List.length_nil]; rw [if_pos (by omega)]
      have hadd2 : strS BinOp.add (name ++ [40]) (prT t) = some (.str (name ++ [40] ++ prT t)) := by simp only [strS, List.length_append, List.length_cons, List.length_nil]; rw [if_pos (by omega)]
      refine WS_run 1000 (by simp only [go_sem, eRun_exit, simprocAttr, k_value_Atom_p1, k_value_Atom_p0, f0, f7, f8, f9, hlt, a3, s2, tkC_len, k0, hadd]; rfl) ?_
      refine WS_call (by simp only [go_sem, eRun_exit, simprocAttr]) (by simp only [go_sem, eRun_exit, simprocAttr]; rfl) ?_
      refine print_ok C F hpt.num fun w3 r3 => ?_
      have hadd2 : strS BinOp.add (name ++ [40]) (if t.k = 3 then fmtI t.n else t.s) = some (.str (name ++ [40] ++ prT t)) := hadd2
      refine WS_run 1000 (by simp only [go_sem, eRun_exit, simprocAttr, hadd2, f9, hwr]; rfl) ?_
      refine ih _ _ _ (by omega) ⟨1, ?_, (by simp only [go_sem, eRun_exit, simprocAttr, f1] <;> rfl), (by simp only [go_sem, eRun_exit, simprocAttr, f7] <;> rfl), (by simp only [go_sem, eRun_exit, simprocAttr, f8] <;> rfl), (by simp only [go_sem, eRun_exit, simprocAttr] <;> rfl), by omega, rfl, (hf.tr r2).tr r3⟩
      rw [htk]
      have : preS name (l.take 0 ++ [t]) = name ++ [40] ++ prT t := by simp [preS, qS]
      rw [this]; exact (by simp only [go_sem, eRun_exit, simprocAttr] <;> rfl)
    · have hne : l.take i ≠ [] := by intro h; have := congrArg List.length h; rw [List.length_take] at this; simp only [List.length_nil] at this; omega
      have hadd : strS BinOp.add (preS name (l.take i)) [44, 32] = some (.str (preS name (l.take i) ++ [44, 32])) := by simp only [strS, List.length_cons, List.length_nil]; rw [if_pos (by omega)]
      have hadd2 : strS BinOp.add (preS name (l.take i) ++ [44, 32]) (prT t) = some (.str (preS name (l.take i) ++ [44, 32] ++ prT t)) := by simp only [strS, List.length_append, List.length_cons, List.length_nil]; rw [if_pos (by omega)]
      have hadd2 : strS BinOp.add (preS name (l.take i) ++ [44, 32]) (if t.k = 3 then fmtI t.n else t.s) = some (.str (preS name (l.take i) ++ [44, 32] ++ prT t)) := hadd2
      refine WS_run 1000 (by simp only [go_sem, eRun_exit, simprocAttr, k_value_Atom_p1, k_value_Atom_p0, f0, f7, f8, f9, hlt, a3, s2, tkC_len, k0, hadd, h0]; rfl) ?_
      refine WS_call (by simp only [go_sem, eRun_exit, simprocAttr]) (by simp only [go_sem, eRun_exit, simprocAttr]; rfl) ?_
      refine print_ok C F hpt.num fun w3 r3 => ?_
      refine WS_run 1000 (by simp only [go_sem, eRun_exit, simprocAttr, hadd2, f9, hwr]; rfl) ?_
      refine ih _ _ _ (by omega) ⟨i + 1, ?_, (by simp only [go_sem, eRun_exit, simprocAttr, f1] <;> rfl), (by simp only [go_sem, eRun_exit, simprocAttr, f7] <;> rfl), (by simp only [go_sem, eRun_exit, simprocAttr, f8] <;> rfl), (by simp only [go_sem, eRun_exit, simprocAttr] <;> rfl), by omega, rfl, (hf.tr r2).tr r3⟩
      rw [htk]
      have : preS name (l.take i ++ [t]) = preS name (l.take i) ++ [44, 32] ++ prT t := by
        cases hx : l.take i with
        | nil => exact (hne hx).elim
        | cons x r => simp only [List.cons_append, preS]; rw [← List.cons_append, qS_snoc _ _ (by simp)]; simp only [List.append_assoc]
      rw [this]; exact (by simp only [go_sem, eRun_exit, simprocAttr] <;> rfl)
  · rintro f w ⟨i, f0, f1, f7, f8, f9, hi, hq, hf⟩
    obtain rfl : i = l.length := by omega
    rw [List.take_of_length_le (Nat.le_refl _)] at f0
    have hpl := preS_len hm hn hp
    have h := h w hf
    cases l with
    | nil =>
      have hlv : lenV lv = some 0 := hlv
      have f0 : f.get 0 = some (.str name) := f0
      refine WS_run 1000 (by simp only [go_sem, eRun_exit, simprocAttr, f0, f1, hlv]; rfl) ?_
      refine WS_ret ⟨_, by simp only [go_sem, eRun_exit, simprocAttr, k_value_Atom]; rfl, ?_⟩
      exact h
    | cons x l =>
      have hlv : lenV lv = some (l.length + 1) := hlv
      have hadd : strS BinOp.add (preS name (x :: l)) [41] = some (.str (preS name (x :: l) ++ [41])) := by simp only [strS, List.length_cons, List.length_nil]; rw [if_pos (by omega)]
      refine WS_run 1000 (by simp only [go_sem, eRun_exit, simprocAttr, f0, f1, hlv, hadd]; rfl) ?_
      refine WS_ret ⟨_, by simp only [go_sem, eRun_exit, simprocAttr, k_value_Atom]; rfl, ?_⟩
      exact h
end Go.Proofs.YtegdcbdicpfbpaaGreatDoor.Val
set_option linter.unusedVariables false
set_option maxRecDepth 10000
set_option linter.unusedSimpArgs false
namespace Delphi
def rQuery (s : List Nat) : Lt × Nat :=
  if 4000 < s.length then (Lt.zero, 8)
  else
    let ws := (scan 0 s).1
    let a := rAtom ws 0 0
    let k := if rSign ws a.2.1 [46] = true ∧ a.2.2 = 0 then a.2.1 + 1 else a.2.1
    let e := rBad (if a.2.2 = 0 ∧ k < ws.length then 4 else a.2.2) (if (scan 0 s).2 then 0 else 4)
    if e = 0 then (a.1, 0) else (Lt.zero, e)
def rFact (s : List Nat) : (List Nat × List Tm) × Nat :=
  if (rQuery s).2 ≠ 0 then (([], []), (rQuery s).2)
  else if (rQuery s).1.args.any (fun t => t.kind == 1) then (([], []), 4)
  else (((rQuery s).1.name, (rQuery s).1.args), 0)
theorem rArgs_len5 {ws : List Wd} : ∀ (n : Nat) (args : List Tm) (k e : Nat), (e = 0 → args.length ≤ 4) → args.length ≤ 5 → (rArgs ws n args k e).1.length ≤ 5
  | 0, args, k, e, _, h => h
  | n + 1, args, k, e, h1, h2 => by
    simp only [rArgs]
    by_cases he : e = 0
    · rw [if_pos he]
      have hl := h1 he
      have h5 : (args ++ [(rTerm ws k e).1]).length ≤ 5 := by simp; omega
      split
      · refine rArgs_len5 n _ _ _ (fun h0 => ?_) h5
        by_cases hc : (rTerm ws k e).2.2 = 0 ∧ args.length = 4
        · rw [if_pos hc] at h0; omega
        · rw [if_neg hc] at h0
          have : args.length ≠ 4 := fun h => hc ⟨h0, h⟩
          simp; omega
      · exact h5
    · rw [if_neg he]; exact h2
theorem rAtom_arg5 {ws : List Wd} {k e : Nat} : (rAtom ws k e).1.args.length ≤ 5 := by
  unfold rAtom
  split
  · simp [Lt.zero]
  · split
    · split
      · exact rArgs_len5 _ _ _ _ (by simp) (by simp)
      · simp
    · simp [Lt.zero]
theorem rQuery_args (s : List Nat) : (rQuery s).1.args.length ≤ 5 := by
  unfold rQuery
  split
  · simp [Lt.zero]
  · simp only
    generalize rBad _ _ = e
    split
    · exact rAtom_arg5
    · simp [Lt.zero]
end Delphi
namespace Go.Proofs.YtegdcbdicpfbpaaGreatDoor
open Go.AE Delphi Val
variable {tab : Tab}
theorem single_ok (C : Codes tab) (PI : Parses tab) (E : ExtIdx tab) {s : List Nat} {aw : AW} {K : V → AW → Prop} (hs : s.length ≤ 1099511627776) (hb : ∀ x ∈ s, x < 256)
    (h : ∀ w xs T, LtC T w (rQuery s).1 xs → Frm (fun _ => False) aw w → (∀ x, T x → aw.next ≤ x ∧ x < w.next) → K (.tuple [.agg xs, .int .i64 (Int.ofNat (rQuery s).2)]) w) : WF tab n_syntax_single [.str s] aw K := by
  refine WF_of C.c_syntax_single rfl ?_
  obtain ⟨w0, e0, c0, r0, m0⟩ := box1 aw [.int .i64 0, .str [], .nilslice]
  refine WS_run 1000 (by simp only [go_sem, eRun_exit, simprocAttr, k_syntax_single, k_syntax_single_p4, e0]; rfl) ?_
  refine WS_call (by simp only [go_sem, eRun_exit, simprocAttr]) (by simp only [go_sem, eRun_exit, simprocAttr]; rfl) ?_
  refine sopen_ok C E hb hs fun w1 bp v Tw p1 hok g1 hbp hTw => ?_
  have hbl := p1.cb.lt
  have n1 := g1.next
  have hnb : ¬ aw.next = bp := by omega
  have c1 := c0.frm g1 fun h => h
  refine WS_run 1000 (by simp only [go_sem, eRun_exit, simprocAttr]; rfl) ?_
  refine WS_call (by simp only [go_sem, eRun_exit, simprocAttr]) (by simp only [go_sem, eRun_exit, simprocAttr]; rfl) ?_
  refine satom_ok C PI p1 (fun x hx => (hTw x hx).2) hok fun w2 v2 k2 e2 T l xs p2 g2 hD q3 ql q4 => ?_
  obtain ⟨xl, xo⟩ := q3.one
  have n2 := g2.next
  obtain ⟨w3, s3, c3, r3, n3⟩ := boxed w2 (zs := [V.int .i64 0, V.str [], V.nilslice]) (vs := xs) (by rw [xl]; rfl) xo
  have p3 := p2.frm0 r3
  have hT3 : ∀ x, Tw x → x < w3.next := fun x hx => by have := (hTw x hx).2; omega
  refine WS_run 1000 (by simp only [go_sem, eRun_exit, simprocAttr, xl, s3, k_syntax_single_p3]; rfl) ?_
  refine WS_call (by simp only [go_sem, eRun_exit, simprocAttr]) (by simp only [go_sem, eRun_exit, simprocAttr]; rfl) ?_
  refine ptake_ok C p3 hT3 fun w4 v4 p4 g4 => ?_
  have hn2 : ¬ w2.next = bp := by omega
  have c4 := c3.frm g4 hn2
  have n4 := g4.next
  have hT4 : ∀ x, Tw x → x < w4.next := fun x hx => by have := hT3 x hx; omega
  have q34 : LtC T w4 l xs := (q3.frm r3 fun _ _ h => h).frm g4 fun x hx he => by have := (q4 x hx).1; omega
  have f14 : Frm (fun b => b = bp) w1 w4 := (g2.tr r3.no).tr g4
  refine WS_run 1000 (by simp only [go_sem, eRun_exit, simprocAttr]; rfl) ?_
  refine WS_call (by simp only [go_sem, eRun_exit, simprocAttr]) (by simp only [go_sem, eRun_exit, simprocAttr]; rfl) ?_
  refine end_ok C p4 ?_
  obtain ⟨k4, hk4⟩ : ∃ k4, k4 = if pSign (openWs s) k2 e2 [46] = true then k2 + 1 else k2 := ⟨_, rfl⟩
  rw [← hk4] at p4 ⊢
  -- the end
  have fin : ∀ {fr : Fr} {w : AW} {v : V} {e : Nat}, PgS Tw w bp (openWs s) v k4 (openWh s) e → Frm (fun b => b = bp) w4 w → fr.get 2 = some (.ptr aw.next 0) → fr.get 4 = some (.ptr bp 0) → fr.get 5 = some (.ptr w2.next 0) → e = (rQuery s).2 → (e = 0 → (rQuery s).1 = l) → (e ≠ 0 → (rQuery s).1 = Lt.zero) →
      WS tab [.code k_syntax_single_p2] fr w (fun fr' aw' => ∃ vs, resV fr' aw' k_syntax_single.results = some vs ∧ K (resOne vs) aw') := by
    intro fr w v e p g f2 f4 f5 he hl0 hl1
    have l2 := p.l2
    have n5 := g.next
    have f15 : Frm (fun b => b = bp) w1 w := f14.tr g
    have f05 : Frm (fun _ => False) aw w := (r0.tr g1).trans f15 (fun _ _ h => h) fun x hx h => by omega
    have cw : CB w aw.next [.int .i64 0, .str [], .nilslice] := (c1.frm f14 hnb).frm g hnb
    have ql := q34.frm g fun x hx he => by have := (q4 x hx).1; omega
    have b5 := (c4.frm g hn2).all xl
    by_cases h0 : e = 0
    · have hst := cw.setAll (vs := xs) (by rw [xl]; rfl) xo
      have hrl := (put_cb (l := xs) cw.lt).all (n := 3) xl
      rw [h0] at l2 he
      refine WS_run 1000 (by simp only [go_sem, eRun_exit, simprocAttr, k_syntax_single_p2, f2, f4, f5, l2, b5, xl, hst]; rfl) ?_
      refine WS_ret ⟨_, by simp only [go_sem, eRun_exit, simprocAttr, k_syntax_single, f2, hrl]; rfl, ?_⟩
      rw [← he, hl0 h0] at h
      have pf : Frm (fun b => b = aw.next) w (w.put aw.next xs) := put_frm
      refine h _ xs T (ql.frm pf fun x hx he => by have := (q4 x hx).1; omega) (f05.out (Nat.le_refl _) rfl) fun x hx => ⟨by have := (q4 x hx).1; omega, by have := (q4 x hx).2; show x < w.next; omega⟩
    · have hst := cw.setAll (vs := [V.int .i64 0, V.str [], V.nilslice]) rfl rfl
      have hrl := (put_cb (l := [V.int .i64 0, V.str [], V.nilslice]) cw.lt).all (n := 3) rfl
      have hl2 := ((p.frm (put_frm (w := w) (b := aw.next) (l := [V.int .i64 0, V.str [], V.nilslice])) (fun h => hnb h.symm) fun x hx he => by have := (hTw x hx).1; omega)).l2
      refine WS_run 1000 (by simp only [go_sem, eRun_exit, simprocAttr, k_syntax_single_p2, k_syntax_single_p1, f2, f4, f5, l2, h0]; rfl) ?_
      refine WS_drawn ?_
      refine WDs_run 100 (by simp only [go_sem, eRun_exit, simprocAttr, f2, f4, l2, evParts, fillV, List.length_cons, List.length_nil, hst]; rfl) ?_
      refine WDs_nil ⟨(show chkAll _ _ [(4, 5)] from by simp only [go_sem, eRun_exit, simprocAttr, chkAll, chk, List.reverse_cons, List.reverse_nil, mkStp_fe, mkStp_v, mkStp_0, mkStp_1, List.getElem?_nil, false_or, or_true, or_false, exists_eq', Option.some.injEq, Prod.mk.injEq, Bool.true_eq_false, Bool.false_eq_true, and_true, true_and, implies_true,  f4, l2, hl2]), ?_⟩
      refine WS_ret ⟨_, by simp only [go_sem, eRun_exit, simprocAttr, k_syntax_single, f2, hrl]; rfl, ?_⟩
      rw [← he, hl1 h0] at h
      exact h _ _ (fun _ => False) LtC.zero (f05.out (Nat.le_refl _) rfl) fun _ h => h.elim
  -- what the reference does
  have hq : ∀ e5 : Nat, e5 = (if (decide (k4 = (openWs s).length) && openWh s) = true then e2 else rBad e2 4) → e5 = (rQuery s).2 ∧ (e5 = 0 → (rQuery s).1 = l) ∧ (e5 ≠ 0 → (rQuery s).1 = Lt.zero) := by
    intro e5 he5
    by_cases hl : 4000 < s.length
    · have hQ : rQuery s = (Lt.zero, 8) := if_pos hl
      have h2 : e2 = 8 := by
        have := hD.bad (by rw [openE, if_pos hl]; simp)
        rw [this, openE, if_pos hl]
      subst h2
      have h5 : e5 = 8 := by rw [he5]; split <;> rfl
      rw [hQ, h5]
      exact ⟨rfl, (fun h => by cases h), fun _ => rfl⟩
    · have hW : openWs s = (scan 0 s).1 := if_neg hl
      have hH : openWh s = (scan 0 s).2 := if_neg hl
      have hE : openE s = 0 := if_neg hl
      have hQ : rQuery s = (let e := rBad (if (rAtom (openWs s) 0 0).2.2 = 0 ∧ (if rSign (openWs s) (rAtom (openWs s) 0 0).2.1 [46] = true ∧ (rAtom (openWs s) 0 0).2.2 = 0 then (rAtom (openWs s) 0 0).2.1 + 1 else (rAtom (openWs s) 0 0).2.1) < (openWs s).length then 4 else (rAtom (openWs s) 0 0).2.2) (if openWh s then 0 else 4)
          if e = 0 then ((rAtom (openWs s) 0 0).1, 0) else (Lt.zero, e)) := by
        rw [hW, hH]; exact if_neg hl
      have hk4l := p4.kle
      rw [hE] at hD
      have d3 := hD.same rfl
      rw [← d3] at hQ
      by_cases h0 : e2 = 0
      · subst h0
        obtain ⟨d1, d2⟩ := hD.fine rfl rfl
        rw [pSign_0] at hk4
        rw [← d1, ← d2] at hQ
        simp only [true_and, and_true] at hQ
        rw [← hk4] at hQ
        by_cases hkl : k4 = (openWs s).length
        · cases hwh : openWh s with
          | true =>
            have h5 : e5 = 0 := by rw [he5, hwh, decide_eq_true hkl]; rfl
            have hQ2 : rQuery s = (l, 0) := by
              have hn : ¬ k4 < (openWs s).length := by omega
              rw [hQ, hwh]; simp only [hn, if_false]; rfl
            rw [hQ2, h5]; exact ⟨rfl, fun _ => rfl, fun h => absurd rfl h⟩
          | false =>
            have h5 : e5 = 4 := by rw [he5, hwh, decide_eq_true hkl]; rfl
            have hQ2 : rQuery s = (Lt.zero, 4) := by
              have hn : ¬ k4 < (openWs s).length := by omega
              rw [hQ, hwh]; simp only [hn, if_false]; rfl
            rw [hQ2, h5]; exact ⟨rfl, (fun h => by cases h), fun _ => rfl⟩
        · have h5 : e5 = 4 := by rw [he5, decide_eq_false hkl]; rfl
          have hQ2 : rQuery s = (Lt.zero, 4) := by
            have hn : k4 < (openWs s).length := by omega
            rw [hQ]; simp only [hn, if_true]; rfl
          rw [hQ2, h5]; exact ⟨rfl, (fun h => by cases h), fun _ => rfl⟩
      · have h5 : e5 = e2 := by
          rw [he5]; split
          · rfl
          · exact if_neg h0
        have hQ2 : rQuery s = (Lt.zero, e2) := by
          rw [hQ]
          simp only [h0, false_and, if_false]
          have : ∀ y, rBad e2 y = e2 := fun y => if_neg h0
          rw [this, if_neg h0]
        rw [hQ2, h5]; exact ⟨rfl, fun h => absurd h h0, fun _ => rfl⟩
  cases hc : (decide (k4 = (openWs s).length) && openWh s) with
  | true =>
    obtain ⟨h1, h2, h3⟩ := hq e2 (by rw [hc]; rfl)
    refine WS_runB 1000 (by simp only [go_sem, eRun_exit, simprocAttr]; rfl) ?_
    exact fin p4 (Frm.refl _) (by simp only [go_sem, eRun_exit, simprocAttr] <;> rfl) (by simp only [go_sem, eRun_exit, simprocAttr] <;> rfl) (by simp only [go_sem, eRun_exit, simprocAttr] <;> rfl) h1 h2 h3
  | false =>
    obtain ⟨h1, h2, h3⟩ := hq (rBad e2 4) (by rw [hc]; rfl)
    refine WS_run 1000 (by simp only [go_sem, eRun_exit, simprocAttr, k_syntax_single_p0]; rfl) ?_
    refine WS_call (by simp only [go_sem, eRun_exit, simprocAttr]) (by simp only [go_sem, eRun_exit, simprocAttr]; rfl) ?_
    refine pfail_ok C (x := 4) p4 fun w5 u1 u2 => ?_
    refine WS_runB 1000 (by simp only [go_sem, eRun_exit, simprocAttr]; rfl) ?_
    exact fin u1 u2 (by simp only [go_sem, eRun_exit, simprocAttr] <;> rfl) (by simp only [go_sem, eRun_exit, simprocAttr] <;> rfl) (by simp only [go_sem, eRun_exit, simprocAttr] <;> rfl) h1 h2 h3
end Go.Proofs.YtegdcbdicpfbpaaGreatDoor
set_option linter.unusedVariables false
set_option maxRecDepth 10000
set_option linter.unusedSimpArgs false
namespace Delphi
end Delphi
namespace Go.Proofs.YtegdcbdicpfbpaaGreatDoor
open Go.AE Delphi
variable {tab : Tab}
theorem tms_at {T : Nat → Prop} {w : AW} {v : V} {l : List Tm} (h : Rd T w v 3 l.length (tmsC l)) {i : Nat} {t : Tm} (hi : l[i]? = some t) : ∃ b o c, v = .slice b o l.length c ∧ T b ∧ b < w.next ∧ w.load b (o + i * 3) 3 = some (tmC t) ∧ w.load b (o + i * 3) 1 = some [.int .i64 (Int.ofNat t.kind)] ∧ w.load b (o + i * 3 + 1) 1 = some [.str t.name] := by
  have hlt : i < l.length := (List.getElem?_eq_some_iff.1 hi).1
  rcases h.inv with ⟨_, q2, _⟩ | ⟨b, o, c, rfl, hB⟩
  · omega
  · have part : ∀ j k, j + k ≤ 3 → w.load b (o + i * 3 + j) k = some (((tmC t).drop j).take k) := by
      intro j k hjk
      rw [Nat.add_assoc, hB.load (i * 3 + j) k (by omega)]
      have h2 := flat_part tmC_len (i := i) (j := j) (k := k) hi hjk
      rw [Nat.zero_add] at h2
      exact congrArg some h2
    exact ⟨b, o, c, rfl, hB.own, hB.lt, part 0 3 (by omega), part 0 1 (by omega), part 1 1 (by omega)⟩
end Go.Proofs.YtegdcbdicpfbpaaGreatDoor
set_option linter.unusedVariables false
set_option maxRecDepth 10000
set_option linter.unusedSimpArgs false
namespace Go.Proofs.YtegdcbdicpfbpaaGreatDoor
open Go.AE Delphi Val
variable {tab : Tab}
def tkOf (t : Tm) : Tk := ⟨Int.ofNat t.kind, t.name, t.num⟩
theorem tmsC_tk (l : List Tm) : tmsC l = tksC (l.map tkOf) := by
  unfold tmsC tksC
  rw [List.flatMap_map]; rfl
def FtC (T : Nat → Prop) (w : AW) (f : List Nat × List Tm) (xs : List V) : Prop := ∃ v, xs = [.str f.1, v] ∧ Rd T w v 3 f.2.length (tmsC f.2)
theorem FtC.frm {T S : Nat → Prop} {w w' : AW} {f : List Nat × List Tm} {xs : List V} (h : FtC T w f xs) (hf : Frm S w w') (hd : ∀ x, T x → ¬ S x) : FtC T w' f xs := by
  obtain ⟨v, h1, h2⟩ := h; exact ⟨v, h1, h2.frm hf hd⟩
theorem FtC.one {T : Nat → Prop} {w : AW} {f : List Nat × List Tm} {xs : List V} (h : FtC T w f xs) : xs.length = 2 ∧ allOne xs = true := by
  obtain ⟨v, rfl, h2⟩ := h
  refine ⟨rfl, ?_⟩
  rcases h2.inv with ⟨rfl, _⟩ | ⟨_, _, _, rfl, _⟩ <;> rfl
structure SfF (f : Fr) (n0 b4 : Nat) (av : V) (n i : Nat) : Prop where
  f2 : f.get 2 = some (.ptr n0 0)
  f4 : f.get 4 = some (.ptr b4 0)
  f18 : f.get 18 = some av
  f19 : f.get 19 = some (.int .i64 (Int.ofNat n))
  f20 : f.get 20 = some (.int .i64 (Int.ofNat i))
theorem sfact_ok (C : Codes tab) (PI : Parses tab) (E : ExtIdx tab) {s : List Nat} {aw : AW} {K : V → AW → Prop} (hs : s.length ≤ 1099511627776) (hb : ∀ x ∈ s, x < 256)
    (h : ∀ w xs T, FtC T w (rFact s).1 xs → Frm (fun _ => False) aw w → (∀ x, T x → aw.next ≤ x ∧ x < w.next) → K (.tuple [.agg xs, .int .i64 (Int.ofNat (rFact s).2)]) w) : WF tab n_syntax_Fact [.str s] aw K := by
  refine WF_of C.c_syntax_Fact rfl ?_
  obtain ⟨w0, e0, c0, r0, m0⟩ := box1 aw [.str [], .nilslice]
  refine WS_run 1000 (by simp only [go_sem, eRun_exit, simprocAttr, k_syntax_Fact, k_syntax_Fact_p6, e0]; rfl) ?_
  refine WS_call (by simp only [go_sem, eRun_exit, simprocAttr]) (by simp only [go_sem, eRun_exit, simprocAttr]; rfl) ?_
  refine single_ok C PI E hs hb fun w1 xs T q1 q2 q3 => ?_
  obtain ⟨xl, xo⟩ := q1.one
  have h5 := rQuery_args s
  obtain ⟨av, rfl, hrd⟩ := q1
  have n1 := q2.next
  obtain ⟨w3, s3, c3, r3, n3⟩ := boxed w1 (zs := [V.int .i64 0, V.str [], V.nilslice]) (vs := [.int .i64 (Int.ofNat (rQuery s).1.kind), .str (rQuery s).1.name, av]) rfl xo
  have f03 : Frm (fun _ => False) aw w3 := (r0.tr q2).tr r3
  have cr := ((c0.frm q2 fun h => h).frm r3 fun h => h)
  have hrd3 := hrd.frm r3 fun _ _ h => h
  by_cases he : (rQuery s).2 = 0
  case neg =>
    have hf : rFact s = (([], []), (rQuery s).2) := if_pos he
    rw [hf] at h
    have hst := cr.setAll (vs := [V.str [], V.nilslice]) rfl rfl
    have hrl := (put_cb (l := [V.str [], V.nilslice]) cr.lt).all (n := 2) rfl
    refine WS_run 1000 (by simp only [go_sem, eRun_exit, simprocAttr, xl, s3, k_syntax_Fact_p5, k_syntax_Fact_p0, he, evParts, fillV, hst, List.length_cons, List.length_nil]; rfl) ?_
    refine WS_ret ⟨_, by simp only [go_sem, eRun_exit, simprocAttr, k_syntax_Fact, hrl]; rfl, ?_⟩
    exact h _ _ (fun _ => False) ⟨.nilslice, rfl, .nil⟩ (f03.out (Nat.le_refl _) rfl) fun _ h => h.elim
  rw [he]
  have l2 : w3.load w1.next 2 1 = some [av] := CB.ld c3 2 1 _ rfl
  have hlv := hrd3.lenV
  refine WS_run 1000 (by simp only [go_sem, eRun_exit, simprocAttr, xl, s3, k_syntax_Fact_p5, l2, hlv, List.length_cons, List.length_nil]; rfl) ?_
  have hbad : ∀ (i : Nat) (t : Tm), (rQuery s).1.args[i]? = some t → t.kind = 1 → rFact s = (([], []), 4) := by
    intro i t ht hk
    unfold rFact
    rw [if_neg (by rw [he]; simp), if_pos]
    rw [List.any_eq_true]
    exact ⟨t, List.mem_of_getElem? ht, by rw [hk]; rfl⟩
  have hgood : (∀ (i : Nat) (t : Tm), i < (rQuery s).1.args.length → (rQuery s).1.args[i]? = some t → t.kind ≠ 1) → rFact s = (((rQuery s).1.name, (rQuery s).1.args), 0) := by
    intro hall
    unfold rFact
    rw [if_neg (by rw [he]; simp), if_neg]
    rw [List.any_eq_true]
    rintro ⟨t, ht, hk⟩
    obtain ⟨i, hi⟩ := List.getElem?_of_mem ht
    exact hall i t (List.getElem?_eq_some_iff.1 hi).1 hi (by simpa using hk)
  generalize (rQuery s).1 = l at *
  refine WS_loopJ (fun n f w => ∃ i, SfF f aw.next w1.next av l.args.length i ∧ Frm (fun _ => False) w3 w ∧ i ≤ l.args.length ∧ n = l.args.length - i ∧ ∀ j t, j < i → l.args[j]? = some t → t.kind ≠ 1) (fun f w => SfF f aw.next w1.next av l.args.length l.args.length ∧ Frm (fun _ => False) w3 w ∧ ∀ j t, j < l.args.length → l.args[j]? = some t → t.kind ≠ 1) ?_ ?_ l.args.length
    ⟨0, ⟨(by simp only [go_sem, eRun_exit, simprocAttr] <;> rfl), (by simp only [go_sem, eRun_exit, simprocAttr] <;> rfl), (by simp only [go_sem, eRun_exit, simprocAttr] <;> rfl), (by simp only [go_sem, eRun_exit, simprocAttr] <;> rfl), (by simp only [go_sem, eRun_exit, simprocAttr] <;> rfl)⟩, Frm.refl _, Nat.zero_le _, rfl, fun j t hj => by omega⟩
  · rintro n f w ⟨i, ⟨f2, f4, f18, f19, f20⟩, g, hi, rfl, hno⟩ ih out
    by_cases hlt : i < l.args.length
    case neg =>
      obtain rfl : i = l.args.length := by omega
      refine WS_runB 1000 (by simp only [go_sem, simprocAttr, k_syntax_Fact_p3, f19, f20, hlt]; rfl) ?_
      exact out _ _ _ ⟨⟨(by simp only [go_sem, eRun_exit, simprocAttr, f2] <;> rfl), (by simp only [go_sem, eRun_exit, simprocAttr, f4] <;> rfl), (by simp only [go_sem, eRun_exit, simprocAttr, f18] <;> rfl), (by simp only [go_sem, eRun_exit, simprocAttr, f19] <;> rfl), (by simp only [go_sem, eRun_exit, simprocAttr, f20] <;> rfl)⟩, g, hno⟩ rfl
    obtain ⟨t, ht⟩ : ∃ t, l.args[i]? = some t := ⟨_, List.getElem?_eq_getElem hlt⟩
    obtain ⟨b, o, c, rfl, _, hbl, a3, _⟩ := tms_at (hrd3.frm g fun _ _ h => h) ht
    obtain ⟨w5, s5, c5, r5, n5⟩ := boxed w (zs := [V.int .i64 0, V.str [], V.int .i64 0]) (vs := tmC t) rfl rfl
    have a0 : w5.load w.next 0 1 = some [.int .i64 (Int.ofNat t.kind)] := CB.ld c5 0 1 _ rfl
    have hwr : IntKind.wrap .i64 (Int.ofNat i + 1) = Int.ofNat (i + 1) := wrap_succ (by omega)
    by_cases hk : t.kind = 1
    · rw [hbad i t ht hk] at h
      have cw := (cr.frm g fun h => h).frm r5 fun h => h
      have hst := cw.setAll (vs := [V.str [], V.nilslice]) rfl rfl
      have hrl := (put_cb (l := [V.str [], V.nilslice]) cw.lt).all (n := 2) rfl
      refine WS_run 1000 (by simp only [go_sem, eRun_exit, simprocAttr, k_syntax_Fact_p3, k_syntax_Fact_p2, k_syntax_Fact_p1, f2, f18, f19, f20, hlt, a3, tmC_len, s5, a0, hk, evParts, fillV, hst, List.length_cons, List.length_nil]; rfl) ?_
      refine WS_ret ⟨_, by simp only [go_sem, eRun_exit, simprocAttr, k_syntax_Fact, f2, hrl]; rfl, ?_⟩
      exact h _ _ (fun _ => False) ⟨.nilslice, rfl, .nil⟩ (((f03.tr g).tr r5).out (Nat.le_refl _) rfl) fun _ h => h.elim
    · refine WS_run 1000 (by simp only [go_sem, eRun_exit, simprocAttr, k_syntax_Fact_p3, k_syntax_Fact_p2, f2, f18, f19, f20, hlt, a3, tmC_len, s5, a0, hk, hwr]; rfl) ?_
      exact ih _ _ _ (by omega) ⟨i + 1, ⟨(by simp only [go_sem, eRun_exit, simprocAttr, f2] <;> rfl), (by simp only [go_sem, eRun_exit, simprocAttr, f4] <;> rfl), (by simp only [go_sem, eRun_exit, simprocAttr, f18] <;> rfl), (by simp only [go_sem, eRun_exit, simprocAttr, f19] <;> rfl), (by simp only [go_sem, eRun_exit, simprocAttr] <;> rfl)⟩, g.tr r5, by omega, rfl, fun j t' hj ht' => by
        rcases Nat.lt_succ_iff_lt_or_eq.1 hj with hj | rfl
        · exact hno j t' hj ht'
        · rw [ht] at ht'; cases ht'; exact hk⟩
  · rintro f w ⟨⟨f2, f4, f18, f19, f20⟩, g, hno⟩
    rw [hgood hno] at h
    have c3w := c3.frm g fun h => h
    have k1 : w.load w1.next 1 1 = some [.str l.name] := CB.ld c3w 1 1 _ rfl
    have k2 : w.load w1.next 2 1 = some [av] := CB.ld c3w 2 1 _ rfl
    have hrdw := hrd3.frm g fun _ _ h => h
    have hft : FtC T w (l.name, l.args) [.str l.name, av] := ⟨av, rfl, hrdw⟩
    have cw := cr.frm g fun h => h
    have avc : av.cells = [av] := by rcases hrdw.inv with ⟨rfl, _⟩ | ⟨_, _, _, rfl, _⟩ <;> rfl
    have hov1 : over [V.str [], V.nilslice] 0 [V.str l.name] = some [V.str l.name, V.nilslice] := rfl
    have hov2 : over [V.str l.name, V.nilslice] 1 [av] = some [V.str l.name, av] := rfl
    have hst := cw.setAll (vs := [V.str l.name, av]) rfl hft.one.2
    have hrl := (put_cb (l := [V.str l.name, av]) cw.lt).all (n := 2) rfl
    have pf : Frm (fun b => b = aw.next) w (w.put aw.next [V.str l.name, av]) := put_frm
    refine WS_run 1000 (by simp only [go_sem, eRun_exit, simprocAttr, k_syntax_Fact_p4, f2, f4, k1, k2, evParts, fillV, avc, hov1, hov2, hst, List.length_cons, List.length_nil]; rfl) ?_
    refine WS_ret ⟨_, by simp only [go_sem, eRun_exit, simprocAttr, k_syntax_Fact, f2, hrl]; rfl, ?_⟩
    refine h _ _ T (hft.frm pf fun x hx he => by have := (q3 x hx).1; omega) ((f03.tr g).out (Nat.le_refl _) rfl) fun x hx => ⟨by have := (q3 x hx).1; omega, by have := (q3 x hx).2; have := r3.next; have := g.next; show x < w.next; omega⟩
end Go.Proofs.YtegdcbdicpfbpaaGreatDoor
set_option linter.unusedVariables false
set_option maxRecDepth 10000
set_option linter.unusedSimpArgs false
namespace Delphi
end Delphi
namespace Go.Proofs.YtegdcbdicpfbpaaGreatDoor
open Go.AE Delphi
variable {tab : Tab}
end Go.Proofs.YtegdcbdicpfbpaaGreatDoor
set_option linter.unusedVariables false
set_option maxRecDepth 10000
set_option linter.unusedSimpArgs false
namespace Delphi
end Delphi
namespace Go.Proofs.YtegdcbdicpfbpaaGreatDoor
open Go.AE Delphi
variable {tab : Tab}
end Go.Proofs.YtegdcbdicpfbpaaGreatDoor
set_option linter.unusedVariables false
set_option maxRecDepth 10000
set_option linter.unusedSimpArgs false
namespace Delphi
end Delphi
namespace Go.Proofs.YtegdcbdicpfbpaaGreatDoor
open Go.AE Delphi
variable {tab : Tab}
end Go.Proofs.YtegdcbdicpfbpaaGreatDoor
set_option linter.unusedVariables false
set_option maxRecDepth 10000
set_option linter.unusedSimpArgs false
namespace Go.Proofs.YtegdcbdicpfbpaaGreatDoor
open Go.AE Delphi
variable {tab : Tab}
def rAll (r : Rl) : List Lt := r.head :: r.body
end Go.Proofs.YtegdcbdicpfbpaaGreatDoor
set_option linter.unusedVariables false
set_option maxRecDepth 10000
set_option linter.unusedSimpArgs false
namespace Delphi
open Go.AE
structure Fa where
  name : List Nat
  args : List (Int × List Nat × Int × Unit)
abbrev Ps := List (List Nat × Int)
end Delphi
namespace Go.Proofs.YtegdcbdicpfbpaaGreatDoor
open Go.AE Delphi
variable {tab : Tab}
def FaC (T : Nat → Prop) (w : AW) (f : Fa) (xs : List V) : Prop := ∃ v, xs = [.str f.name, v] ∧ ∃ cs, Rd T w v 3 f.args.length cs
theorem FaC.frm {T S : Nat → Prop} {w w' : AW} {l : Fa} {xs : List V} (h : FaC T w l xs) (hf : Frm S w w') (hd : ∀ x, T x → ¬ S x) : FaC T w' l xs := by
  obtain ⟨v, h1, cs, h2⟩ := h; exact ⟨v, h1, cs, h2.frm hf hd⟩
theorem FaC.one {T : Nat → Prop} {w : AW} {l : Fa} {xs : List V} (h : FaC T w l xs) : xs.length = 2 ∧ allOne xs = true := by
  obtain ⟨v, rfl, cs, h2⟩ := h
  refine ⟨rfl, ?_⟩
  rcases h2.inv with ⟨rfl, _⟩ | ⟨_, _, _, rfl, _⟩ <;> rfl
end Go.Proofs.YtegdcbdicpfbpaaGreatDoor
set_option linter.unusedVariables false
set_option maxRecDepth 10000
set_option linter.unusedSimpArgs false
namespace Delphi
end Delphi
namespace Go.Proofs.YtegdcbdicpfbpaaGreatDoor
open Go.AE Delphi
variable {tab : Tab}
theorem Al.cut {T : Nat → Prop} {w : AW} {b : Nat} {sh : Share} (h : Al T w b sh) : Al (fun x => T x ∧ x < w.next) w b sh := by
  rcases h with rfl | rfl | rfl | ⟨f, F, rfl, h1, h2, h3⟩
  · exact .inl rfl
  · exact .inr (.inl rfl)
  · exact .inr (.inr (.inl rfl))
  · exact .inr (.inr (.inr ⟨f, F, rfl, ⟨h1, h2⟩, h2, h3⟩))
theorem Rd.cut {T : Nat → Prop} {w : AW} {v : V} {esz n : Nat} {cs : List V} (h : Rd T w v esz n cs) : Rd (fun x => T x ∧ x < w.next) w v esz n cs := by
  cases h with
  | nil => exact .nil
  | blk hT hb hx ha hl hcs hc => exact .blk ⟨hT, hb⟩ hb hx (Al.cut ha) hl hcs hc
end Go.Proofs.YtegdcbdicpfbpaaGreatDoor
set_option linter.unusedVariables false
set_option maxRecDepth 10000
set_option linter.unusedSimpArgs false
namespace Delphi
open Go.AE
end Delphi
namespace Go.Proofs.YtegdcbdicpfbpaaGreatDoor
open Go.AE Delphi
variable {tab : Tab}
def nmsC (L : Ps) : List V := L.map fun p => V.str p.1
def wdtC (L : Ps) : List V := L.map fun p => V.int .i64 p.2
structure NW (aw w : AW) (nv wv : V) (L : Ps) (S1 S2 : Nat → Prop) : Prop where
  a : Bt S1 w nv 1 L.length (nmsC L)
  b : Bt S2 w wv 1 L.length (wdtC L)
  s1 : ∀ x, S1 x → aw.next ≤ x ∧ x < w.next ∧ ¬ S2 x
  s2 : ∀ x, S2 x → aw.next ≤ x ∧ x < w.next
  frm : Frm (fun _ => False) aw w
theorem NW.ext {aw w w2 : AW} {nv wv : V} {L : Ps} {S1 S2 : Nat → Prop} (h : NW aw w nv wv L S1 S2) (hf : Frm (fun _ => False) w w2) : NW aw w2 nv wv L S1 S2 :=
  ⟨h.a.frm hf fun _ _ h => h, h.b.frm hf fun _ _ h => h, fun x hx => by have h1 := h.s1 x hx; have := hf.next; exact ⟨by omega, by omega, h1.2.2⟩, fun x hx => by have h1 := h.s2 x hx; have := hf.next; exact ⟨by omega, by omega⟩, h.frm.tr hf⟩
end Go.Proofs.YtegdcbdicpfbpaaGreatDoor
set_option linter.unusedVariables false
set_option maxRecDepth 10000
set_option linter.unusedSimpArgs false
namespace Go.Proofs.YtegdcbdicpfbpaaGreatDoor
open Go.AE Delphi
variable {tab : Tab}
structure LV (T : Nat → Prop) (aw w : AW) (lv : V) (r : Rl) (S1 S2 Tl : Nat → Prop) : Prop where
  rd : ∃ xss, Rd Tl w lv 3 (rAll r).length xss.flatten ∧ All2 (LtC T aw) (rAll r) xss
  sep : ∀ x, Tl x → x < w.next ∧ ¬ S1 x ∧ ¬ S2 x
theorem LV.at {T : Nat → Prop} {aw w : AW} {lv : V} {r : Rl} {S1 S2 Tl : Nat → Prop} (h : LV T aw w lv r S1 S2 Tl) {i : Nat} {x : Lt} (hx : (rAll r)[i]? = some x) : ∃ b o c u, lv = .slice b o (rAll r).length c ∧ w.load b (o + i * 3) 1 = some [.int .i64 (Int.ofNat x.kind)] ∧ w.load b (o + i * 3 + 1) 1 = some [.str x.name] ∧ w.load b (o + i * 3 + 2) 1 = some [u] ∧ lenV u = some x.args.length := by
  obtain ⟨xss, h1, h2⟩ := h.rd
  have hlt : i < (rAll r).length := (List.getElem?_eq_some_iff.1 hx).1
  have h3 : RdL (fun _ => LtC T aw) Tl w lv 3 (rAll r) := ⟨xss, h1, h2⟩
  rcases h3.inv (fun a xs hx => (LtC.one hx).1) with ⟨_, q2⟩ | ⟨b, o, c, rfl, _, _, _, hat⟩
  · rw [q2] at hlt; simp at hlt
  · obtain ⟨xs, ⟨u, rfl, hu⟩, hp⟩ := hat i x hx
    exact ⟨b, o, c, u, rfl, hp 0 1 (by omega), hp 1 1 (by omega), hp 2 1 (by omega), hu.lenV⟩
end Go.Proofs.YtegdcbdicpfbpaaGreatDoor
set_option linter.unusedVariables false
set_option maxRecDepth 10000
set_option linter.unusedSimpArgs false
namespace Go.Proofs.YtegdcbdicpfbpaaGreatDoor
open Go.AE Delphi
variable {tab : Tab}
end Go.Proofs.YtegdcbdicpfbpaaGreatDoor
set_option linter.unusedVariables false
set_option maxRecDepth 10000
set_option linter.unusedSimpArgs false
namespace Delphi
def cDefined (rules : List Rl) (nm : List Nat) : Prop := ∃ r ∈ rules, r.head.name = nm
instance (rules : List Rl) (nm : List Nat) : Decidable (cDefined rules nm) := List.decidableBEx _ rules
end Delphi
namespace Go.Proofs.YtegdcbdicpfbpaaGreatDoor
open Go.AE Delphi
variable {tab : Tab}
end Go.Proofs.YtegdcbdicpfbpaaGreatDoor
set_option linter.unusedVariables false
set_option maxRecDepth 10000
set_option linter.unusedSimpArgs false
namespace Delphi
theorem rArgs_len {ws : List Wd} : ∀ (n : Nat) (args : List Tm) (k e : Nat), (args.length ≤ 4 ∨ e ≠ 0) → args.length ≤ 5 → (rArgs ws n args k e).1.length ≤ 5
  | 0, args, k, e, _, h => h
  | n + 1, args, k, e, h1, h2 => by
    unfold rArgs
    by_cases he : e = 0
    · rw [if_pos he]
      have h3 : args.length ≤ 4 := h1.resolve_right fun h => h he
      by_cases hs : rSign ws (rTerm ws k e).2.1 [44] = true
      · simp only [if_pos hs]
        refine rArgs_len n _ _ _ ?_ (by rw [List.length_append, List.length_singleton]; omega)
        rw [List.length_append, List.length_singleton]
        by_cases h4 : (rTerm ws k e).2.2 = 0 ∧ args.length = 4
        · rw [if_pos h4]; right; omega
        · rw [if_neg h4]
          by_cases h5 : (rTerm ws k e).2.2 = 0
          · left; have : ¬ args.length = 4 := fun h => h4 ⟨h5, h⟩
            omega
          · exact .inr h5
      · simp only [if_neg hs]
        rw [List.length_append, List.length_singleton]; omega
    · rw [if_neg he]; exact h2
theorem rAtom_args {ws : List Wd} {k e : Nat} : (rAtom ws k e).1.args.length ≤ 5 := by
  unfold rAtom
  split
  · simp [Lt.zero]
  · split
    · split
      · exact rArgs_len _ _ _ _ (.inl (by simp)) (by simp)
      · simp
    · simp [Lt.zero]
theorem rLit_args {ws : List Wd} {k e : Nat} : (rLit ws k e).1.args.length ≤ 5 := by
  unfold rLit
  split
  · exact rAtom_args
  · split
    · exact rAtom_args
    · simp only
      split
      · simp [Lt.zero]
      · simp
theorem rBody_len {ws : List Wd} : ∀ (n : Nat) (l : List Lt) (k e : Nat), (l.length ≤ 6 ∨ e ≠ 0) → l.length ≤ 7 → (∀ x ∈ l, x.args.length ≤ 5) → (rBody ws n l k e).1.length ≤ 7 ∧ ∀ x ∈ (rBody ws n l k e).1, x.args.length ≤ 5
  | 0, l, k, e, _, h, h3 => ⟨h, h3⟩
  | n + 1, l, k, e, h1, h2, h3 => by
    unfold rBody
    have hx : ∀ x ∈ l ++ [(rLit ws k e).1], x.args.length ≤ 5 := by
      intro x hx
      rw [List.mem_append, List.mem_singleton] at hx
      rcases hx with hx | rfl
      · exact h3 x hx
      · exact rLit_args
    by_cases he : e = 0
    · rw [if_pos he]
      have h6 : l.length ≤ 6 := h1.resolve_right fun h => h he
      by_cases hs : rSign ws (rLit ws k e).2.1 [44] = true
      · simp only [if_pos hs]
        refine rBody_len n _ _ _ ?_ (by rw [List.length_append, List.length_singleton]; omega) hx
        rw [List.length_append, List.length_singleton]
        by_cases h4 : (rLit ws k e).2.2 = 0 ∧ l.length = 6
        · rw [if_pos h4]; right; omega
        · rw [if_neg h4]
          by_cases h5 : (rLit ws k e).2.2 = 0
          · left; have : ¬ l.length = 6 := fun h => h4 ⟨h5, h⟩
            omega
          · exact .inr h5
      · simp only [if_neg hs]
        exact ⟨by rw [List.length_append, List.length_singleton]; omega, hx⟩
    · rw [if_neg he]; exact ⟨h2, h3⟩
structure RBr (r : Rl) : Prop where
  head : r.head.args.length ≤ 5
  body : r.body.length ≤ 7
  args : ∀ l ∈ r.body, l.args.length ≤ 5
theorem rClause_bd {ws : List Wd} {k e : Nat} : RBr (rClause ws k e).1 := by
  unfold rClause
  refine ⟨rAtom_args, ?_, ?_⟩
  · simp only
    split
    · exact (rBody_len _ _ _ _ (.inl (by simp)) (by simp) (by simp)).1
    · simp
  · simp only
    split
    · exact (rBody_len _ _ _ _ (.inl (by simp)) (by simp) (by simp)).2
    · simp
theorem rRules_bd {ws : List Wd} : ∀ (n : Nat) (l : List Rl) (k e : Nat), (l.length ≤ 30 ∨ e ≠ 0) → l.length ≤ 31 → (∀ x ∈ l, RBr x) → (rRules ws n l k e).1.length ≤ 31 ∧ ∀ x ∈ (rRules ws n l k e).1, RBr x
  | 0, l, k, e, _, h, h3 => ⟨h, h3⟩
  | n + 1, l, k, e, h1, h2, h3 => by
    unfold rRules
    have hx : ∀ x ∈ l ++ [(rClause ws k e).1], RBr x := by
      intro x hx
      rw [List.mem_append, List.mem_singleton] at hx
      rcases hx with hx | rfl
      · exact h3 x hx
      · exact rClause_bd
    by_cases he : e = 0 ∧ k < ws.length
    · rw [if_pos he]
      have h6 : l.length ≤ 30 := h1.resolve_right fun h => h he.1
      refine rRules_bd n _ _ _ ?_ (by rw [List.length_append, List.length_singleton]; omega) hx
      rw [List.length_append, List.length_singleton]
      by_cases h4 : (rClause ws k e).2.2 = 0 ∧ l.length = 30
      · simp only [if_pos h4]; right; omega
      · simp only [if_neg h4]
        by_cases h5 : (rClause ws k e).2.2 = 0
        · left; have : ¬ l.length = 30 := fun h => h4 ⟨h5, h⟩
          omega
        · exact .inr h5
    · rw [if_neg he]; exact ⟨h2, h3⟩
theorem rProgram_bd (s : List Nat) : (rProgram s).1.length ≤ 31 ∧ ∀ x ∈ (rProgram s).1, RBr x := by
  unfold rProgram
  split
  · simp
  · have hb := rRules_bd (ws := (scan 0 s).1) ((scan 0 s).1.length + 1) [] 0 0 (.inl (by simp)) (by simp) (by simp)
    simp only
    generalize rRules (scan 0 s).1 ((scan 0 s).1.length + 1) [] 0 0 = r at hb ⊢
    generalize rBad r.2.2 (if (scan 0 s).2 = true then 0 else 4) = e
    by_cases he : e = 0
    · rw [if_pos he]; exact hb
    · rw [if_neg he]; simp
end Delphi
namespace Go.Proofs.YtegdcbdicpfbpaaGreatDoor
open Go.AE Delphi
variable {tab : Tab}
theorem lcut_ok (C : Codes tab) {s : List Nat} {n : Nat} {aw : AW} {K : V → AW → Prop} (h : K (.str (s.take n)) aw) : WF tab n_law1_Cut [.str s, .int .i64 (Int.ofNat n)] aw K := by
  refine WF_of C.c_law1_Cut rfl ?_
  by_cases hl : n < s.length
  · have h1 : n ≤ s.length := by omega
    refine WS_run 1000 (by simp only [go_sem, eRun_exit, simprocAttr, k_law1_Cut, hl, h1, Nat.zero_le, List.drop_zero, Nat.sub_zero]; rfl) ?_
    refine WS_ret ⟨_, by simp only [go_sem, eRun_exit, simprocAttr, k_law1_Cut]; rfl, ?_⟩
    exact h
  · refine WS_run 1000 (by simp only [go_sem, eRun_exit, simprocAttr, k_law1_Cut, hl]; rfl) ?_
    refine WS_ret ⟨_, by simp only [go_sem, eRun_exit, simprocAttr, k_law1_Cut]; rfl, ?_⟩
    rw [List.take_of_length_le (by omega)] at h
    exact h
end Go.Proofs.YtegdcbdicpfbpaaGreatDoor
set_option linter.unusedVariables false
set_option maxRecDepth 10000
set_option linter.unusedSimpArgs false
namespace Go.Proofs.YtegdcbdicpfbpaaGreatDoor
open Go.AE Delphi Val
variable {tab : Tab}
theorem strNe_same (s : List Nat) : strS BinOp.neq s s = some (.bool false) := by simp [strS, eqLd]
theorem tkSame_refl (t : Tk) : tkSame t t = true := by simp [tkSame, eqLd]
theorem eqLit_ok (C : Codes tab) {T T' : Nat → Prop} {l : Lt} {xs ys : List V} {aw : AW} {K : V → AW → Prop} (hx : LtC T aw l xs) (hy : LtC T' aw l ys) (hl : l.args.length ≤ 1000) (h : ∀ w, Frm (fun _ => False) aw w → K (.bool true) w) : WF tab n_ref8_EqLiteral [.agg xs, .agg ys] aw K := by
  refine WF_of C.c_ref8_EqLiteral rfl ?_
  obtain ⟨xl, xo⟩ := hx.one
  obtain ⟨yl, yo⟩ := hy.one
  obtain ⟨xv, rfl, hx⟩ := hx
  obtain ⟨yv, rfl, hy⟩ := hy
  obtain ⟨w1, e1, c1, r1, m1⟩ := box1 aw [.int .i64 (Int.ofNat l.kind), .str l.name, xv]
  obtain ⟨w2, e2, c2, r2, m2⟩ := box1 w1 [.int .i64 (Int.ofNat l.kind), .str l.name, yv]
  have c1 := c1.frm r2 fun h => h
  have f02 := r1.tr r2
  have a0 := CB.ld c1 0 1 _ rfl
  have a1 := CB.ld c1 1 1 _ rfl
  have a2 := CB.ld c1 2 1 _ rfl
  have b0 := CB.ld c2 0 1 _ rfl
  have b1 := CB.ld c2 1 1 _ rfl
  have b2 := CB.ld c2 2 1 _ rfl
  have hxv := hx.lenV
  have hyv := hy.lenV
  have hsn := strNe_same l.name
  refine WS_run 1000 (by simp only [go_sem, eRun_exit, simprocAttr, k_ref8_EqLiteral, k_ref8_EqLiteral_p4, e1, e2, a0, a1, a2, b0, b1, b2, hsn, hxv, hyv]; rfl) ?_
  refine WS_loopJ (fun n f w => ∃ i, f.get 2 = some (.ptr aw.next 0) ∧ f.get 3 = some (.ptr w1.next 0) ∧ f.get 5 = some (.int .i64 (Int.ofNat i)) ∧ Frm (fun _ => False) w2 w ∧ i ≤ l.args.length ∧ n = l.args.length - i) (fun f w => Frm (fun _ => False) w2 w) ?_ ?_ l.args.length ⟨0, (by simp only [go_sem, eRun_exit, simprocAttr] <;> rfl), (by simp only [go_sem, eRun_exit, simprocAttr] <;> rfl), (by simp only [go_sem, eRun_exit, simprocAttr] <;> rfl), Frm.refl _, Nat.zero_le _, rfl⟩
  · rintro n f w ⟨i, f2, f3, f5, g, hi, rfl⟩ ih out
    have a2 := CB.ld (c1.frm g fun h => h) 2 1 _ rfl
    have b2 := CB.ld (c2.frm g fun h => h) 2 1 _ rfl
    by_cases hlt : i < l.args.length
    case neg =>
      refine WS_runB 1000 (by simp only [go_sem, simprocAttr, k_ref8_EqLiteral_p3, f2, f5, a2, hxv, hlt]; rfl) ?_
      exact out _ _ _ g rfl
    obtain ⟨t, ht⟩ : ∃ t, l.args[i]? = some t := ⟨_, List.getElem?_eq_getElem hlt⟩
    have f0w := f02.tr g
    obtain ⟨b, o, c, rfl, _, _, a3, _⟩ := tms_at (hx.frm f0w fun _ _ h => h) ht
    obtain ⟨b', o', c', rfl, _, _, b3, _⟩ := tms_at (hy.frm f0w fun _ _ h => h) ht
    have hwr : IntKind.wrap .i64 (Int.ofNat i + 1) = Int.ofNat (i + 1) := wrap_succ (by omega)
    refine WS_run 1000 (by simp only [go_sem, eRun_exit, simprocAttr, k_ref8_EqLiteral_p3, k_ref8_EqLiteral_p2, f2, f3, f5, a2, b2, hxv, hlt, a3, b3]; rfl) ?_
    refine WS_call (by simp only [go_sem, eRun_exit, simprocAttr]) (by simp only [go_sem, eRun_exit, simprocAttr]; rfl) ?_
    refine rEq_ok C (a := tkOf t) (b := tkOf t) fun w' g' => ?_
    rw [tkSame_refl]
    refine WS_run 1000 (by simp only [go_sem, eRun_exit, simprocAttr, f5, hwr]; rfl) ?_
    exact ih _ _ _ (by omega) ⟨i + 1, (by simp only [go_sem, eRun_exit, simprocAttr, f2] <;> rfl), (by simp only [go_sem, eRun_exit, simprocAttr, f3] <;> rfl), (by simp only [go_sem, eRun_exit, simprocAttr] <;> rfl), g.tr g', by omega, rfl⟩
  · rintro f w g
    refine WS_run 1000 (by simp only [go_sem, eRun_exit, simprocAttr]; rfl) ?_
    refine WS_ret ⟨_, by simp only [go_sem, eRun_exit, simprocAttr, k_ref8_EqLiteral]; rfl, ?_⟩
    exact h w (f02.tr g)
theorem lts_at {T : Nat → Prop} {w : AW} {v : V} {l : List Lt} (h : RdL (LtC T) T w v 3 l) {i : Nat} {t : Lt} (hi : l[i]? = some t) : ∃ b o c xs, v = .slice b o l.length c ∧ w.load b (o + i * 3) 3 = some xs ∧ LtC T w t xs := by
  have hlt : i < l.length := (List.getElem?_eq_some_iff.1 hi).1
  obtain ⟨xss, h1, h2⟩ := h
  obtain ⟨xs, h3, h4⟩ := flat_at (sz := 3) (fun a xs h => h.one.1) h2 hi
  rcases h1.inv with ⟨_, q2, _⟩ | ⟨b, o, c, rfl, hB⟩
  · omega
  · refine ⟨b, o, c, xs, rfl, ?_, h3⟩
    rw [hB.load (i * 3) 3 (by omega)]
    exact congrArg some h4
theorem eqRule_ok (C : Codes tab) {T T' : Nat → Prop} {r : Rl} {xs ys : List V} {aw : AW} {K : V → AW → Prop} (hx : RlC T aw r xs) (hy : RlC T' aw r ys) (hr : RBr r) (h : ∀ w, Frm (fun _ => False) aw w → K (.bool true) w) : WF tab n_ref8_EqRule [.agg xs, .agg ys] aw K := by
  refine WF_of C.c_ref8_EqRule rfl ?_
  obtain ⟨xv, xb, rfl, hxh, hxb⟩ := hx
  obtain ⟨yv, yb, rfl, hyh, hyb⟩ := hy
  obtain ⟨w1, e1, c1, r1, m1⟩ := box1 aw [.int .i64 (Int.ofNat r.head.kind), .str r.head.name, xv, xb]
  obtain ⟨w2, e2, c2, r2, m2⟩ := box1 w1 [.int .i64 (Int.ofNat r.head.kind), .str r.head.name, yv, yb]
  have c1 := c1.frm r2 fun h => h
  have f02 := r1.tr r2
  have a0 := CB.ld c1 0 3 _ rfl
  have b0 := CB.ld c2 0 3 _ rfl
  refine WS_run 1000 (by simp only [go_sem, eRun_exit, simprocAttr, k_ref8_EqRule, k_ref8_EqRule_p4, e1, e2, a0, b0]; rfl) ?_
  refine WS_call (by simp only [go_sem, eRun_exit, simprocAttr]) (by simp only [go_sem, eRun_exit, simprocAttr]; rfl) ?_
  have hh := hr.head
  refine eqLit_ok C (l := r.head) (T := T) (T' := T') ⟨xv, rfl, hxh.frm f02 fun _ _ h => h⟩ ⟨yv, rfl, hyh.frm f02 fun _ _ h => h⟩ (by omega) fun w3 g3 => ?_
  have a3 := CB.ld (c1.frm g3 fun h => h) 3 1 _ rfl
  have b3 := CB.ld (c2.frm g3 fun h => h) 3 1 _ rfl
  have hxv : lenV xb = some r.body.length := by obtain ⟨xss, q1, _⟩ := hxb; exact q1.lenV
  have hyv : lenV yb = some r.body.length := by obtain ⟨xss, q1, _⟩ := hyb; exact q1.lenV
  refine WS_run 1000 (by simp only [go_sem, eRun_exit, simprocAttr, a3, b3, hxv, hyv]; rfl) ?_
  refine WS_loopJ (fun n f w => ∃ i, f.get 2 = some (.ptr aw.next 0) ∧ f.get 3 = some (.ptr w1.next 0) ∧ f.get 5 = some (.int .i64 (Int.ofNat i)) ∧ Frm (fun _ => False) w2 w ∧ i ≤ r.body.length ∧ n = r.body.length - i) (fun f w => Frm (fun _ => False) w2 w) ?_ ?_ r.body.length ⟨0, (by simp only [go_sem, eRun_exit, simprocAttr] <;> rfl), (by simp only [go_sem, eRun_exit, simprocAttr] <;> rfl), (by simp only [go_sem, eRun_exit, simprocAttr] <;> rfl), g3, Nat.zero_le _, rfl⟩
  · rintro n f w ⟨i, f2, f3, f5, g, hi, rfl⟩ ih out
    have a3 := CB.ld (c1.frm g fun h => h) 3 1 _ rfl
    have b3 := CB.ld (c2.frm g fun h => h) 3 1 _ rfl
    by_cases hlt : i < r.body.length
    case neg =>
      refine WS_runB 1000 (by simp only [go_sem, simprocAttr, k_ref8_EqRule_p3, f2, f5, a3, hxv, hlt]; rfl) ?_
      exact out _ _ _ g rfl
    obtain ⟨t, ht⟩ : ∃ t, r.body[i]? = some t := ⟨_, List.getElem?_eq_getElem hlt⟩
    have f0w := f02.tr g
    obtain ⟨b, o, c, xs, rfl, la, ha⟩ := lts_at (hxb.frm (fun _ _ h => h.frm f0w fun _ _ h => h) f0w fun _ _ h => h) ht
    obtain ⟨b', o', c', ys, rfl, lb, hb⟩ := lts_at (hyb.frm (fun _ _ h => h.frm f0w fun _ _ h => h) f0w fun _ _ h => h) ht
    have hwr : IntKind.wrap .i64 (Int.ofNat i + 1) = Int.ofNat (i + 1) := wrap_succ (by have := hr.body; omega)
    refine WS_run 1000 (by simp only [go_sem, eRun_exit, simprocAttr, k_ref8_EqRule_p3, k_ref8_EqRule_p2, f2, f3, f5, a3, b3, hxv, hlt, la, lb]; rfl) ?_
    refine WS_call (by simp only [go_sem, eRun_exit, simprocAttr]) (by simp only [go_sem, eRun_exit, simprocAttr]; rfl) ?_
    refine eqLit_ok C ha hb (by have := hr.args t (List.mem_of_getElem? ht); omega) fun w' g' => ?_
    refine WS_run 1000 (by simp only [go_sem, eRun_exit, simprocAttr, f5, hwr]; rfl) ?_
    exact ih _ _ _ (by omega) ⟨i + 1, (by simp only [go_sem, eRun_exit, simprocAttr, f2] <;> rfl), (by simp only [go_sem, eRun_exit, simprocAttr, f3] <;> rfl), (by simp only [go_sem, eRun_exit, simprocAttr] <;> rfl), g.tr g', by omega, rfl⟩
  · rintro f w g
    refine WS_run 1000 (by simp only [go_sem, eRun_exit, simprocAttr]; rfl) ?_
    refine WS_ret ⟨_, by simp only [go_sem, eRun_exit, simprocAttr, k_ref8_EqRule]; rfl, ?_⟩
    exact h w (f02.tr g)
theorem rls_at3 {T : Nat → Prop} {w : AW} {v : V} {l : List Rl} (h : RdL (RlC T) T w v 4 l) {i : Nat} {t : Rl} (hi : l[i]? = some t) : ∃ b o c xs, v = .slice b o l.length c ∧ w.load b (o + i * 4) 4 = some xs ∧ RlC T w t xs := by
  have hlt : i < l.length := (List.getElem?_eq_some_iff.1 hi).1
  obtain ⟨xss, h1, h2⟩ := h
  obtain ⟨xs, h3, h4⟩ := flat_at (sz := 4) (fun a xs h => h.one.1) h2 hi
  rcases h1.inv with ⟨_, q2, _⟩ | ⟨b, o, c, rfl, hB⟩
  · omega
  · refine ⟨b, o, c, xs, rfl, ?_, h3⟩
    rw [hB.load (i * 4) 4 (by omega)]
    exact congrArg some h4
theorem eqRules_ok (C : Codes tab) {T T' : Nat → Prop} {l : List Rl} {xv yv : V} {aw : AW} {K : V → AW → Prop} (hx : RdL (RlC T) T aw xv 4 l) (hy : RdL (RlC T') T' aw yv 4 l) (hl : l.length ≤ 1000) (hr : ∀ r ∈ l, RBr r) (h : ∀ w, Frm (fun _ => False) aw w → K (.bool true) w) : WF tab n_ref8_EqRules [xv, yv] aw K := by
  refine WF_of C.c_ref8_EqRules rfl ?_
  have hxv : lenV xv = some l.length := by obtain ⟨xss, q1, _⟩ := hx; exact q1.lenV
  have hyv : lenV yv = some l.length := by obtain ⟨xss, q1, _⟩ := hy; exact q1.lenV
  refine WS_run 1000 (by simp only [go_sem, eRun_exit, simprocAttr, k_ref8_EqRules, k_ref8_EqRules_p4, hxv, hyv]; rfl) ?_
  refine WS_loopJ (fun n f w => ∃ i, f.get 0 = some xv ∧ f.get 1 = some yv ∧ f.get 5 = some (.int .i64 (Int.ofNat i)) ∧ Frm (fun _ => False) aw w ∧ i ≤ l.length ∧ n = l.length - i) (fun f w => Frm (fun _ => False) aw w) ?_ ?_ l.length ⟨0, (by simp only [go_sem, eRun_exit, simprocAttr] <;> rfl), (by simp only [go_sem, eRun_exit, simprocAttr] <;> rfl), (by simp only [go_sem, eRun_exit, simprocAttr] <;> rfl), Frm.refl _, Nat.zero_le _, rfl⟩
  · rintro n f w ⟨i, f0, f1, f5, g, hi, rfl⟩ ih out
    by_cases hlt : i < l.length
    case neg =>
      refine WS_runB 1000 (by simp only [go_sem, simprocAttr, k_ref8_EqRules_p3, f0, f5, hxv, hlt]; rfl) ?_
      exact out _ _ _ g rfl
    obtain ⟨t, ht⟩ : ∃ t, l[i]? = some t := ⟨_, List.getElem?_eq_getElem hlt⟩
    obtain ⟨b, o, c, xs, rfl, la, ha⟩ := rls_at3 (hx.frm (fun _ _ h => h.frm g fun _ _ h => h) g fun _ _ h => h) ht
    obtain ⟨b', o', c', ys, rfl, lb, hb⟩ := rls_at3 (hy.frm (fun _ _ h => h.frm g fun _ _ h => h) g fun _ _ h => h) ht
    have hwr : IntKind.wrap .i64 (Int.ofNat i + 1) = Int.ofNat (i + 1) := wrap_succ (by omega)
    refine WS_run 1000 (by simp only [go_sem, eRun_exit, simprocAttr, k_ref8_EqRules_p3, k_ref8_EqRules_p2, f0, f1, f5, hxv, hlt, la, lb]; rfl) ?_
    refine WS_call (by simp only [go_sem, eRun_exit, simprocAttr]) (by simp only [go_sem, eRun_exit, simprocAttr]; rfl) ?_
    refine eqRule_ok C ha hb (hr t (List.mem_of_getElem? ht)) fun w' g' => ?_
    refine WS_run 1000 (by simp only [go_sem, eRun_exit, simprocAttr, f5, hwr]; rfl) ?_
    exact ih _ _ _ (by omega) ⟨i + 1, (by simp only [go_sem, eRun_exit, simprocAttr, f0] <;> rfl), (by simp only [go_sem, eRun_exit, simprocAttr, f1] <;> rfl), (by simp only [go_sem, eRun_exit, simprocAttr] <;> rfl), g.tr g', by omega, rfl⟩
  · rintro f w g
    refine WS_run 1000 (by simp only [go_sem, eRun_exit, simprocAttr]; rfl) ?_
    refine WS_ret ⟨_, by simp only [go_sem, eRun_exit, simprocAttr, k_ref8_EqRules]; rfl, ?_⟩
    exact h w g
end Go.Proofs.YtegdcbdicpfbpaaGreatDoor
set_option linter.unusedVariables false
set_option maxRecDepth 10000
set_option linter.unusedSimpArgs false
namespace Go.Proofs.YtegdcbdicpfbpaaGreatDoor
open Go.AE Delphi Val
variable {tab : Tab}
def cmpT (k : Nat) : List Nat := if k = 3 then [61] else if k = 4 then [33, 61] else if k = 5 then [60] else if k = 6 then [60, 61] else []
def litS (l : Lt) : List Nat :=
  if l.kind = 1 then atomS l.name (l.args.map tkOf)
  else if l.kind = 2 then 33 :: atomS l.name (l.args.map tkOf)
  else match l.args with
    | [a, b] => prT (tkOf a) ++ [32] ++ cmpT l.kind ++ [32] ++ prT (tkOf b)
    | _ => []
def bodyS : List (List Nat) → List Nat
  | [] => []
  | b :: r => [32, 58, 45, 32] ++ joinN (b :: r)
def ruleS (r : Rl) : List Nat := atomS r.head.name (r.head.args.map tkOf) ++ bodyS (r.body.map litS) ++ [46]
theorem bodyS_snoc (l : List (List Nat)) (x : List Nat) : bodyS (l ++ [x]) = bodyS l ++ (if l = [] then [32, 58, 45, 32] else [44, 32]) ++ x := by
  cases l with
  | nil => simp [bodyS, joinN]
  | cons b r => simp [bodyS, joinN]
structure LtP (l : Lt) : Prop where
  kind : l.kind = 1 ∨ l.kind = 2 ∨ (3 ≤ l.kind ∧ l.kind ≤ 6 ∧ l.args.length = 2)
  nm : l.name.length ≤ 1000
  ar : l.args.length ≤ 1000
  tm : ∀ t ∈ l.args, TkPr (tkOf t)
structure RlP (r : Rl) : Prop where
  head : LtP r.head
  hk : r.head.kind = 1
  body : r.body.length ≤ 7
  lits : ∀ l ∈ r.body, LtP l
theorem LtP.tks {l : Lt} (h : LtP l) : ∀ t ∈ l.args.map tkOf, TkPr t := by
  intro t ht
  obtain ⟨u, hu, rfl⟩ := List.mem_map.1 ht
  exact h.tm u hu
theorem atomS_len {l : Lt} (h : LtP l) : (atomS l.name (l.args.map tkOf)).length ≤ 4000000000001 := by
  have := preS_len (name := l.name) (l := l.args.map tkOf) h.nm (by rw [List.length_map]; exact h.ar) h.tks
  unfold atomS
  unfold preS at this
  split
  · rename_i he; rw [he] at this; simp only at this; omega
  · rename_i he
    split at this
    · contradiction
    · rw [List.length_append]; simp only [List.length_cons, List.length_nil]; omega
theorem cmpT_len (k : Nat) : (cmpT k).length ≤ 2 := by unfold cmpT; (repeat' split) <;> simp
theorem litS_len {l : Lt} (h : LtP l) : (litS l).length ≤ 7000000000000 := by
  have h1 := atomS_len h
  have h2 := cmpT_len l.kind
  unfold litS
  split
  · omega
  · split
    · rw [List.length_cons]; omega
    · split
      · rename_i a b hab
        have ha := (h.tm a (by rw [hab]; simp)).len
        have hb := (h.tm b (by rw [hab]; simp)).len
        simp only [List.length_append, List.length_cons, List.length_nil]; omega
      · simp
theorem joinN_len : ∀ {l : List Lt}, (∀ x ∈ l, LtP x) → (joinN (l.map litS)).length ≤ l.length * 7000000000002 := by
  have h : ∀ {l : List Lt}, (∀ x ∈ l, LtP x) → ((l.map litS).flatMap fun x => [44, 32] ++ x).length ≤ l.length * 7000000000002 := by
    intro l
    induction l with
    | nil => intro _; simp
    | cons x l ih =>
      intro h
      have h1 := litS_len (h x (by simp))
      have h2 := ih fun t ht => h t (by simp [ht])
      rw [List.map_cons, List.flatMap_cons, List.length_append, List.length_append, List.length_cons, List.length_cons, List.length_cons, List.length_nil]; omega
  intro l hl
  cases l with
  | nil => simp [joinN]
  | cons x l =>
    have h1 := litS_len (hl x (by simp))
    have h2 := h (l := l) fun t ht => hl t (by simp [ht])
    simp only [List.map_cons, joinN, List.length_append, List.length_cons]
    omega
def Joins (tab : Tab) : Prop := ∀ (T : Nat → Prop) (w : AW) (v : V) (l : List (List Nat)), Rd T w v 1 l.length (l.map V.str) → l.length ≤ 1000 → (joinN l).length ≤ 100000000000000 → CallR tab n_strings_Join [v, .str [44, 32]] w (.str (joinN l)) w
theorem between_ok (C : Codes tab) {k : Nat} {aw : AW} {K : V → AW → Prop} (h : K (.str (if 3 ≤ k ∧ k ≤ 6 then [32] ++ cmpT k ++ [32] else [])) aw) : WF tab n_syntax_between [.int .i64 (Int.ofNat k)] aw K := by
  refine WF_of C.c_syntax_between rfl ?_
  by_cases h3 : k = 3
  · subst h3
    refine WS_run 1000 (by simp only [go_sem, eRun_exit, simprocAttr, k_syntax_between_p0, k_syntax_between_p1, k_syntax_between_p2, k_syntax_between_p3, k_syntax_between_p4, k_syntax_between_p5, k_syntax_between_p6, k_syntax_between_p7, k_syntax_between]; rfl) ?_
    refine WS_ret ⟨_, by simp only [go_sem, eRun_exit, simprocAttr, k_syntax_between]; rfl, ?_⟩
    exact h
  by_cases h4 : k = 4
  · subst h4
    refine WS_run 1000 (by simp only [go_sem, eRun_exit, simprocAttr, k_syntax_between_p0, k_syntax_between_p1, k_syntax_between_p2, k_syntax_between_p3, k_syntax_between_p4, k_syntax_between_p5, k_syntax_between_p6, k_syntax_between_p7, k_syntax_between]; rfl) ?_
    refine WS_ret ⟨_, by simp only [go_sem, eRun_exit, simprocAttr, k_syntax_between]; rfl, ?_⟩
    exact h
  by_cases h5 : k = 5
  · subst h5
    refine WS_run 1000 (by simp only [go_sem, eRun_exit, simprocAttr, k_syntax_between_p0, k_syntax_between_p1, k_syntax_between_p2, k_syntax_between_p3, k_syntax_between_p4, k_syntax_between_p5, k_syntax_between_p6, k_syntax_between_p7, k_syntax_between]; rfl) ?_
    refine WS_ret ⟨_, by simp only [go_sem, eRun_exit, simprocAttr, k_syntax_between]; rfl, ?_⟩
    exact h
  by_cases h6 : k = 6
  · subst h6
    refine WS_run 1000 (by simp only [go_sem, eRun_exit, simprocAttr, k_syntax_between_p0, k_syntax_between_p1, k_syntax_between_p2, k_syntax_between_p3, k_syntax_between_p4, k_syntax_between_p5, k_syntax_between_p6, k_syntax_between_p7, k_syntax_between]; rfl) ?_
    refine WS_ret ⟨_, by simp only [go_sem, eRun_exit, simprocAttr, k_syntax_between]; rfl, ?_⟩
    exact h
  rw [if_neg (by omega)] at h
  refine WS_run 1000 (by simp only [go_sem, eRun_exit, simprocAttr, k_syntax_between_p0, k_syntax_between_p1, k_syntax_between_p2, k_syntax_between_p3, k_syntax_between_p4, k_syntax_between_p5, k_syntax_between_p6, k_syntax_between_p7, k_syntax_between, h3, h4, h5, h6]; rfl) ?_
  refine WS_ret ⟨_, by simp only [go_sem, eRun_exit, simprocAttr, k_syntax_between]; rfl, ?_⟩
  exact h
theorem slitS_ok (C : Codes tab) (F : Formats tab) {T : Nat → Prop} {l : Lt} {xs : List V} {aw : AW} {K : V → AW → Prop} (hx : LtC T aw l xs) (hp : LtP l) (h : ∀ w, Frm (fun _ => False) aw w → K (.str (litS l)) w) : WF tab n_syntax_literal [.agg xs] aw K := by
  refine WF_of C.c_syntax_literal rfl ?_
  obtain ⟨xv, rfl, hx⟩ := hx
  obtain ⟨w1, e1, c1, r1, m1⟩ := box1 aw [.int .i64 (Int.ofNat l.kind), .str l.name, xv]
  have a0 := CB.ld c1 0 1 _ rfl
  have a1 := CB.ld c1 1 1 _ rfl
  have a2 := CB.ld c1 2 1 _ rfl
  have hx1 := hx.frm r1 fun _ _ h => h
  have hlv := hx1.lenV
  have hne : ∀ s : List Nat, strS BinOp.neq s [] = some (.bool (decide (s ≠ []))) := by
    intro s; cases s <;> rfl
  have hal := atomS_len hp
  have htk : Rd T w1 xv 3 (l.args.map tkOf).length (tksC (l.args.map tkOf)) := by rw [List.length_map, ← tmsC_tk]; exact hx1
  refine WS_run 1000 (by simp only [go_sem, eRun_exit, simprocAttr, k_syntax_literal_p0, k_syntax_literal_p1, k_syntax_literal_p2, k_syntax_literal_p3, k_syntax_literal_p4, k_syntax_literal, e1, a0]; rfl) ?_
  refine WS_call (by simp only [go_sem, eRun_exit, simprocAttr]) (by simp only [go_sem, eRun_exit, simprocAttr]; rfl) ?_
  refine between_ok C ?_
  by_cases h36 : 3 ≤ l.kind ∧ l.kind ≤ 6
  · rw [if_pos h36]
    obtain ⟨bt, hbt⟩ : ∃ bt, bt = [32] ++ cmpT l.kind ++ [32] := ⟨_, rfl⟩
    rw [← hbt]
    have hbl4 : bt.length ≤ 4 := by have := cmpT_len l.kind; rw [hbt]; simp only [List.length_append, List.length_cons, List.length_nil]; omega
    have h2 : l.args.length = 2 := by rcases hp.kind with h | h | h; omega; omega; exact h.2.2
    obtain ⟨a, b, hab⟩ : ∃ a b, l.args = [a, b] := by
      match hh : l.args, h2 with
      | [a, b], _ => exact ⟨a, b, rfl⟩
    obtain ⟨bb, o, c, rfl, _, hbl, la, _⟩ := tms_at hx1 (i := 0) (t := a) (by rw [hab]; rfl)
    obtain ⟨bb', o', c', he, _, _, lb, _⟩ := tms_at hx1 (i := 1) (t := b) (by rw [hab]; rfl)
    cases he
    have ha := hp.tm a (by rw [hab]; simp)
    have hb := hp.tm b (by rw [hab]; simp)
    rw [h2] at a2 hlv
    rw [Nat.zero_mul, Nat.add_zero] at la
    have lb : w1.load bb (o + 3) 3 = some (tmC b) := lb
    have hd1 : decide (bt ≠ []) = true := by rw [hbt]; simp
    have hr : litS l = prT (tkOf a) ++ [32] ++ cmpT l.kind ++ [32] ++ prT (tkOf b) := by
      unfold litS
      rw [if_neg (by omega), if_neg (by omega), hab]
    have hne' := hne bt
    rw [hd1] at hne'
    refine WS_run 1000 (by simp only [go_sem, eRun_exit, simprocAttr, a2, hlv, hne', h2]; rfl) ?_
    refine WS_drawn ?_
    refine WDs_run 100 (by simp only [go_sem, eRun_exit, simprocAttr, a2, la]; rfl) ?_
    refine WDs_call (by simp only [go_sem, eRun_exit, simprocAttr]) (by simp only [go_sem, eRun_exit, simprocAttr]; rfl) ?_
    refine print_ok C F (t := tkOf a) ha.num fun w2 g2 => ?_
    have f12 := r1.tr g2
    have a2' := CB.ld (c1.frm g2 fun h => h) 2 1 _ rfl
    rw [h2] at a2'
    have hx2 := hx1.frm g2 fun _ _ h => h
    obtain ⟨bb2, o2, c2, he2, _, _, lb2, _⟩ := tms_at hx2 (i := 1) (t := b) (by rw [hab]; rfl)
    cases he2
    have lb2 : w2.load bb (o + 3) 3 = some (tmC b) := lb2
    have hl1 := ha.len
    have hl2 := hb.len
    have hcl := cmpT_len l.kind
    have hadd1 : strS BinOp.add (if (tkOf a).k = 3 then fmtI (tkOf a).n else (tkOf a).s) bt = some (.str (prT (tkOf a) ++ bt)) := by
      have : (if (tkOf a).k = 3 then fmtI (tkOf a).n else (tkOf a).s) = prT (tkOf a) := rfl
      rw [this]
      simp only [strS, List.length_append, List.length_cons, List.length_nil]; rw [if_pos (by omega)]
    have hadd2 : strS BinOp.add (prT (tkOf a) ++ bt) (if (tkOf b).k = 3 then fmtI (tkOf b).n else (tkOf b).s) = some (.str (litS l)) := by
      have : (if (tkOf b).k = 3 then fmtI (tkOf b).n else (tkOf b).s) = prT (tkOf b) := rfl
      rw [this, hr]
      simp only [strS, List.length_append, List.length_cons, List.length_nil]; rw [if_pos (by omega)]
      rw [hbt]; simp only [List.append_assoc]
    refine WDs_run 100 (by simp only [go_sem, eRun_exit, simprocAttr, hadd1, a2', lb2]; rfl) ?_
    refine WDs_call (by simp only [go_sem, eRun_exit, simprocAttr]) (by simp only [go_sem, eRun_exit, simprocAttr]; rfl) ?_
    refine print_ok C F (t := tkOf b) hb.num fun w3 g3 => ?_
    refine WDs_run 100 (by simp only [go_sem, eRun_exit, simprocAttr, hadd2]; rfl) ?_
    refine WDs_nil ⟨(show chkAll _ _ [(8, 4), (10, 4)] from by simp only [go_sem, eRun_exit, simprocAttr, chkAll, chk, List.reverse_cons, List.reverse_nil, mkStp_fe, mkStp_v, mkStp_0, mkStp_1, List.getElem?_nil, false_or, or_true, or_false, exists_eq', Option.some.injEq, Prod.mk.injEq, Bool.true_eq_false, Bool.false_eq_true, and_true, true_and, implies_true,  a2, a2', lb, lb2]), ?_⟩
    refine WS_ret ⟨_, by simp only [go_sem, eRun_exit, simprocAttr, k_syntax_literal]; rfl, ?_⟩
    exact h w3 (f12.tr g3)
  · rw [if_neg h36]
    have hd1 : strS BinOp.neq ([] : List Nat) [] = some (.bool false) := rfl
    rcases hp.kind with hk | hk | hk
    · have hr : litS l = atomS l.name (l.args.map tkOf) := if_pos hk
      rw [hr] at h
      refine WS_run 1000 (by simp only [go_sem, eRun_exit, simprocAttr, hd1, a0, a1, a2, hk]; rfl) ?_
      refine WS_call (by simp only [go_sem, eRun_exit, simprocAttr]) (by simp only [go_sem, eRun_exit, simprocAttr]; rfl) ?_
      refine atom_ok C F htk (by rw [List.length_map]; exact hp.ar) hp.nm hp.tks fun w2 g2 => ?_
      refine WS_run 1000 (by simp only [go_sem, eRun_exit, simprocAttr]; rfl) ?_
      refine WS_ret ⟨_, by simp only [go_sem, eRun_exit, simprocAttr, k_syntax_literal]; rfl, ?_⟩
      exact h w2 (r1.tr g2)
    · have hr : litS l = 33 :: atomS l.name (l.args.map tkOf) := by unfold litS; rw [if_neg (by omega), if_pos hk]
      rw [hr] at h
      have hadd : strS BinOp.add [33] (atomS l.name (l.args.map tkOf)) = some (.str (33 :: atomS l.name (l.args.map tkOf))) := by
        simp only [strS, List.length_cons, List.length_nil]; rw [if_pos (by omega)]; rfl
      refine WS_run 1000 (by simp only [go_sem, eRun_exit, simprocAttr, hd1, a0, a1, a2, hk]; rfl) ?_
      refine WS_call (by simp only [go_sem, eRun_exit, simprocAttr]) (by simp only [go_sem, eRun_exit, simprocAttr]; rfl) ?_
      refine atom_ok C F htk (by rw [List.length_map]; exact hp.ar) hp.nm hp.tks fun w2 g2 => ?_
      refine WS_run 1000 (by simp only [go_sem, eRun_exit, simprocAttr, hadd]; rfl) ?_
      refine WS_ret ⟨_, by simp only [go_sem, eRun_exit, simprocAttr, k_syntax_literal]; rfl, ?_⟩
      exact h w2 (r1.tr g2)
    · omega
def PrtI (aw w2 : AW) (bv : V) (r : Rl) (q : Nat) (f : Fr) (w : AW) : Prop :=
  ∃ i v S, f.get 1 = some (.ptr aw.next 0) ∧ f.get 3 = some v ∧ f.get 8 = some bv ∧ f.get 9 = some (.int .i64 (Int.ofNat r.body.length)) ∧ f.get 10 = some (.int .i64 (Int.ofNat i)) ∧ Frm (fun _ => False) w2 w ∧ Buf S w v 1 i (((r.body.take i).map litS).map V.str) ∧ (∀ x, S x → w2.next ≤ x ∧ x < w.next) ∧ i ≤ r.body.length ∧ q = r.body.length - i
theorem sprint_ok (C : Codes tab) (F : Formats tab) (J : Joins tab) {T : Nat → Prop} {r : Rl} {xs : List V} {aw : AW} {K : V → AW → Prop} (hx : RlC T aw r xs) (hp : RlP r) (h : ∀ w, Frm (fun _ => False) aw w → K (.str (ruleS r)) w) : WF tab n_syntax_Print [.agg xs] aw K := by
  refine WF_of C.c_syntax_Print rfl ?_
  obtain ⟨xv, xb, rfl, hxh, hxb⟩ := hx
  obtain ⟨w1, e1, c1, r1, m1⟩ := box1 aw [.int .i64 (Int.ofNat r.head.kind), .str r.head.name, xv, xb]
  have a3 := CB.ld c1 3 1 _ rfl
  have hbv : lenV xb = some r.body.length := by obtain ⟨xss, q1, _⟩ := hxb; exact q1.lenV
  have hbl := hp.body
  refine WS_run 1000 (by simp only [go_sem, eRun_exit, simprocAttr, k_syntax_Print, k_syntax_Print_p5, e1, a3, hbv]; rfl) ?_
  refine WS_loopJ (PrtI aw w1 xb r) (PrtI aw w1 xb r 0) ?_ ?_ r.body.length ⟨0, .nilslice, fun _ => False, (by simp only [go_sem, eRun_exit, simprocAttr] <;> rfl), (by simp only [go_sem, eRun_exit, simprocAttr] <;> rfl), (by simp only [go_sem, eRun_exit, simprocAttr] <;> rfl), (by simp only [go_sem, eRun_exit, simprocAttr] <;> rfl), (by simp only [go_sem, eRun_exit, simprocAttr] <;> rfl), Frm.refl _, .nil, fun _ h => h.elim, Nat.zero_le _, rfl⟩
  · rintro q f w ⟨i, v, S, f1, f3, f8, f9, f10, g, hB, hS, hi, rfl⟩ ih out
    by_cases hlt : i < r.body.length
    case neg =>
      refine WS_runB 1000 (by simp only [go_sem, simprocAttr, k_syntax_Print_p2, f9, f10, hlt]; rfl) ?_
      exact out _ _ _ ⟨i, v, S, (by simp only [go_sem, eRun_exit, simprocAttr, f1] <;> rfl), (by simp only [go_sem, eRun_exit, simprocAttr, f3] <;> rfl), (by simp only [go_sem, eRun_exit, simprocAttr, f8] <;> rfl), (by simp only [go_sem, eRun_exit, simprocAttr, f9] <;> rfl), (by simp only [go_sem, eRun_exit, simprocAttr, f10] <;> rfl), g, hB, hS, hi, by omega⟩ rfl
    obtain ⟨t, ht⟩ : ∃ t, r.body[i]? = some t := ⟨_, List.getElem?_eq_getElem hlt⟩
    have f0w := r1.tr g
    obtain ⟨b, o, c, ys, rfl, la, ha⟩ := lts_at (hxb.frm (fun _ _ h => h.frm f0w fun _ _ h => h) f0w fun _ _ h => h) ht
    obtain ⟨yl, yo⟩ := ha.one
    obtain ⟨w2, s2, c2, r2, n2⟩ := boxed w (zs := [V.int .i64 0, V.str [], V.nilslice]) (vs := ys) (by rw [yl]; rfl) yo
    have k2 := c2.all yl
    have hwr : IntKind.wrap .i64 (Int.ofNat i + 1) = Int.ofNat (i + 1) := wrap_succ (by omega)
    refine WS_run 1000 (by simp only [go_sem, eRun_exit, simprocAttr, k_syntax_Print_p0, k_syntax_Print_p1, k_syntax_Print_p2, k_syntax_Print_p3, k_syntax_Print_p4, k_syntax_Print_p5, k_syntax_Print, f1, f3, f8, f9, f10, hlt, la, yl, s2, k2]; rfl) ?_
    refine WS_call (by simp only [go_sem, eRun_exit, simprocAttr]) (by simp only [go_sem, eRun_exit, simprocAttr]; rfl) ?_
    refine slitS_ok C F (ha.frm r2 fun _ _ h => h) (hp.lits t (List.mem_of_getElem? ht)) fun w3 g3 => ?_
    have g23 : Frm (fun _ => False) w w3 := r2.tr g3
    have hB3 := hB.frm g23 fun _ _ h => h
    have n3 := g23.next
    obtain ⟨v', w5, S5, a1, a2, a3', a4⟩ := hB3.push (news := [V.str (litS t)]) (bytes := 16) (fun b hb => by have := (hS b hb).2; omega) (by omega) rfl rfl (by omega) (by omega)
    have hel : (w3.fresh [V.str (litS t)]).elems 1 (.slice w3.next 0 1 (.known 1)) = some (1, [V.str (litS t)]) := elems_fresh (by omega) rfl
    have n1 := g.next
    have htk : r.body.take (i + 1) = r.body.take i ++ [t] := by rw [List.take_add_one, ht]; rfl
    refine WS_run 1000 (by simp only [go_sem, eRun_exit, simprocAttr, f3, f10, evParts, fillV, over, List.length_cons, List.length_nil, hel, a1, hwr]; rfl) ?_
    refine ih _ _ _ (by omega) ⟨i + 1, v', S5, (by simp only [go_sem, eRun_exit, simprocAttr, f1] <;> rfl), (by simp only [go_sem, eRun_exit, simprocAttr] <;> rfl), (by simp only [go_sem, eRun_exit, simprocAttr, f8] <;> rfl), (by simp only [go_sem, eRun_exit, simprocAttr, f9] <;> rfl), (by simp only [go_sem, eRun_exit, simprocAttr] <;> rfl), (g.tr g23).trans a3' (fun _ _ h => h) (fun x hx h => by have := (hS x h).1; omega), ?_, fun x hx => ?_, by omega, rfl⟩
    · rw [htk, List.map_append, List.map_append]; exact a2
    · obtain ⟨m1, m2⟩ := a4 x hx
      refine ⟨?_, m1⟩
      rcases m2 with m2 | m2
      · exact (hS x m2).1
      · omega
  · rintro f w ⟨i, v, S, f1, f3, f8, f9, f10, g, hB, hS, hi, hq⟩
    obtain rfl : i = r.body.length := by omega
    rw [List.take_length] at hB
    have cw := c1.frm g fun h => h
    have b0 := CB.ld cw 0 3 _ rfl
    have f0w := r1.tr g
    refine WS_run 1000 (by simp only [go_sem, eRun_exit, simprocAttr, f1, b0]; rfl) ?_
    refine WS_call (by simp only [go_sem, eRun_exit, simprocAttr]) (by simp only [go_sem, eRun_exit, simprocAttr]; rfl) ?_
    refine slitS_ok C F (l := r.head) (T := T) ⟨xv, rfl, hxh.frm f0w fun _ _ h => h⟩ hp.head fun w2 g2 => ?_
    have hr : litS r.head = atomS r.head.name (r.head.args.map tkOf) := if_pos hp.hk
    rw [hr]
    have hal := atomS_len hp.head
    have hB2 := hB.frm g2 fun _ _ h => h
    have hlv := hB2.lenV
    have hjl := joinN_len hp.lits
    have ffin := f0w.tr g2
    generalize hA : atomS r.head.name (r.head.args.map tkOf) = A at *
    by_cases h0 : r.body.length = 0
    · have hnil : r.body = [] := List.length_eq_zero_iff.1 h0
      have hrs : ruleS r = A ++ [46] := by unfold ruleS; rw [hA, hnil]; simp [bodyS]
      rw [hrs] at h
      have hadd : strS BinOp.add A [46] = some (.str (A ++ [46])) := by simp only [strS, List.length_cons, List.length_nil]; rw [if_pos (by omega)]
      rw [h0] at hlv
      refine WS_run 1000 (by simp only [go_sem, eRun_exit, simprocAttr, k_syntax_Print_p4, f3, hlv, hadd]; rfl) ?_
      refine WS_ret ⟨_, by simp only [go_sem, eRun_exit, simprocAttr, k_syntax_Print]; rfl, ?_⟩
      exact h w2 ffin
    · obtain ⟨b0, bs, hbs⟩ : ∃ b bs, r.body = b :: bs := by
        cases hh : r.body with
        | nil => rw [hh] at h0; simp at h0
        | cons b bs => exact ⟨b, bs, rfl⟩
      obtain ⟨jt, hjt⟩ : ∃ jt, jt = [32, 58, 45, 32] ++ joinN (r.body.map litS) := ⟨_, rfl⟩
      have hrs : ruleS r = A ++ jt ++ [46] := by unfold ruleS; rw [hA, hjt, hbs]; simp [bodyS]
      rw [hrs] at h
      have h0' : 0 < r.body.length := by omega
      have hjtl : jt.length ≤ 200000000000000 := by rw [hjt]; simp only [List.length_append, List.length_cons, List.length_nil]; omega
      refine WS_run 1000 (by simp only [go_sem, eRun_exit, simprocAttr, k_syntax_Print_p4, k_syntax_Print_p3, f3, hlv, h0']; rfl) ?_
      refine WS_call (by simp only [go_sem, eRun_exit, simprocAttr]) (by simp only [go_sem, eRun_exit, simprocAttr]; rfl) ?_
      refine ⟨_, _, J S w2 v (r.body.map litS) (by rw [List.length_map]; exact hB2.rd) (by rw [List.length_map]; omega) (by omega), ?_⟩
      have hadd1 : strS BinOp.add [32, 58, 45, 32] (joinN (r.body.map litS)) = some (.str jt) := by rw [hjt]; simp only [strS, List.length_cons, List.length_nil]; rw [if_pos (by omega)]
      have hadd2 : strS BinOp.add A jt = some (.str (A ++ jt)) := by simp only [strS]; rw [if_pos (by omega)]
      have hadd3 : strS BinOp.add (A ++ jt) [46] = some (.str (A ++ jt ++ [46])) := by simp only [strS, List.length_append, List.length_cons, List.length_nil]; rw [if_pos (by omega)]
      refine WS_run 1000 (by simp only [go_sem, eRun_exit, simprocAttr, hadd1, hadd2, hadd3]; rfl) ?_
      refine WS_ret ⟨_, by simp only [go_sem, eRun_exit, simprocAttr, k_syntax_Print]; rfl, ?_⟩
      exact h w2 ffin
end Go.Proofs.YtegdcbdicpfbpaaGreatDoor
set_option linter.unusedVariables false
set_option maxRecDepth 100000
namespace Go.Proofs.YtegdcbdicpfbpaaGreatDoor
open Go.AE Go.RowKit Delphi
theorem codesS : Codes (tabS Tryz.prog) := codesOf rfl
theorem formatsS : Val.Formats (tabS Tryz.prog) := fun n aw h1 h2 => .prim (by
  show formatI [.int .i64 n, .int .i64 10] aw = some (.str (fmtI n), aw)
  simp only [formatI]
  rw [if_pos ⟨h1, h2⟩])
theorem parsesS : Parses (tabS Tryz.prog) := fun s aw h1 h2 => .prim (by
  show parseI [.str s, .int .i64 10, .int .i64 64] aw = some (.tuple [.int .i64 (numV s), .niliface], aw)
  simp only [parseI]
  rw [if_pos ⟨h1, h2⟩])
theorem joinsS : Joins (tabS Tryz.prog) := fun T w v l hr hl hj => .prim (by
  show joinI [v, .str [44, 32]] w = some (.str (joinN l), w)
  have hfit : joinFit v = true := by
    rcases hr.inv with ⟨rfl, _⟩ | ⟨b, o, c, rfl, hB⟩
    · rfl
    · have hc := hB.fit
      cases c with
      | known k => exact Nat.ble_eq_true_of_le hc
      | upTo z => rfl
  have hel := hr.elems
  simp only [joinI, hfit, hel, strsV_map]
  rw [if_pos ⟨hj, hl⟩])
theorem extS : ExtIdx (tabS Tryz.prog) := fun s c aw hc => by
  show (match extIdx [.str s, .int .u8 (Int.ofNat c)] with | some v => some (v, aw) | Option.none => Option.none) = some (idxV (idxN s c), aw)
  have hb : Nat.blt c 256 = true := by rw [Nat.blt_eq]; exact hc
  simp only [extIdx, hb]
end Go.Proofs.YtegdcbdicpfbpaaGreatDoor
set_option linter.unusedVariables false
set_option maxRecDepth 10000
set_option linter.unusedSimpArgs false
namespace Go.Proofs.YtegdcbdicpfbpaaGreatDoor
open Go.AE Delphi Val
variable {tab : Tab}
def bgnT : List Nat := [112, 40, 88, 41, 32, 58, 45, 32, 113, 40, 88, 44, 32, 51, 41, 44, 32, 33, 114, 40, 88, 41, 44, 32, 88, 32, 33, 61, 32, 97, 46]
def bgnR : Rl := ⟨⟨1, [112], [⟨1, [88], 0⟩]⟩, [⟨1, [113], [⟨1, [88], 0⟩, ⟨3, [], 3⟩]⟩, ⟨2, [114], [⟨1, [88], 0⟩]⟩, ⟨4, [], [⟨1, [88], 0⟩, ⟨2, [97], 0⟩]⟩]⟩
theorem bgn_read : rProgram bgnT = ([bgnR], 0) := by decide +kernel
theorem bgn_fact : rFact [113, 40, 97, 44, 32, 45, 51, 41, 46] = (([113], [⟨2, [97], 0⟩, ⟨3, [], -3⟩]), 0) := by decide +kernel
theorem bgn_no : (rFact [113, 40, 88, 41]).2 = 4 := by decide +kernel
theorem fmt3 : fmtI 3 = [51] := decN_small (n := 3) (by omega)
theorem bgn_print : ruleS bgnR = bgnT := by
  have h : prT (tkOf ⟨3, [], 3⟩) = [51] := fmt3
  have h2 : litS ⟨1, [113], [⟨1, [88], 0⟩, ⟨3, [], 3⟩]⟩ = [113, 40, 88, 44, 32, 51, 41] := by
    show [113] ++ [40] ++ (prT (tkOf ⟨1, [88], 0⟩) ++ [prT (tkOf ⟨3, [], 3⟩)].flatMap fun u => [44, 32] ++ u) ++ [41] = _
    rw [h]; rfl
  unfold ruleS bgnR
  simp only [List.map_cons, List.map_nil, h2]
  rfl
theorem tkPr_name {t : Tm} (h3 : t.kind ≠ 3) (h0 : t.num = 0) (hl : t.name.length ≤ 1000000) : TkPr (tkOf t) := by
  refine ⟨by show t.num.natAbs ≤ _; rw [h0]; simp, ?_⟩
  have : prT (tkOf t) = t.name := by unfold prT; rw [if_neg (by show ¬ (t.kind : Int) = 3; omega)]; rfl
  rw [this]; omega
theorem tkPr_num {t : Tm} (h3 : t.kind = 3) (hn : t.name = []) (h1 : -2147483648 ≤ t.num) (h2 : t.num ≤ 2147483648) : TkPr (tkOf t) := by
  refine tkPr ?_ (by show t.name.length ≤ _; rw [hn]; simp)
  have hk : (tkOf t).k = 3 := by show (t.kind : Int) = 3; omega
  unfold tkMay
  rw [if_pos hk]
  have hs : (tkOf t).s = [] := hn
  have hnn : (tkOf t).n = t.num := rfl
  rw [hs, hnn, decide_eq_true h1, decide_eq_true h2]; rfl
theorem bgn_ok : RlP bgnR := by
  have hX : TkPr (tkOf ⟨1, [88], 0⟩) := tkPr_name (by simp) rfl (by simp)
  have hA : TkPr (tkOf ⟨2, [97], 0⟩) := tkPr_name (by simp) rfl (by simp)
  have h3 : TkPr (tkOf ⟨3, [], 3⟩) := tkPr_num rfl rfl (by simp) (by simp)
  have hl : ∀ {l : Lt}, (l.kind = 1 ∨ l.kind = 2 ∨ (3 ≤ l.kind ∧ l.kind ≤ 6 ∧ l.args.length = 2)) → l.name.length ≤ 1000 → l.args.length ≤ 1000 → (∀ t ∈ l.args, t = ⟨1, [88], 0⟩ ∨ t = ⟨2, [97], 0⟩ ∨ t = ⟨3, [], 3⟩) → LtP l := by
    intro l h1 h2 h4 h5
    refine ⟨h1, h2, h4, fun t ht => ?_⟩
    rcases h5 t ht with rfl | rfl | rfl
    · exact hX
    · exact hA
    · exact h3
  refine ⟨hl (.inl rfl) (by decide) (by decide) (by decide), rfl, by decide, ?_⟩
  intro l h
  have h : l ∈ [(⟨1, [113], [⟨1, [88], 0⟩, ⟨3, [], 3⟩]⟩ : Lt), ⟨2, [114], [⟨1, [88], 0⟩]⟩, ⟨4, [], [⟨1, [88], 0⟩, ⟨2, [97], 0⟩]⟩] := h
  simp only [List.mem_cons, List.not_mem_nil, or_false] at h
  rcases h with rfl | rfl | rfl
  · exact hl (.inl rfl) (by decide) (by decide) (by decide)
  · exact hl (.inr (.inl rfl)) (by decide) (by decide) (by decide)
  · exact hl (.inr (.inr ⟨by decide, by decide, rfl⟩)) (by decide) (by decide) (by decide)
theorem begun8_ok (C : Codes tab) (F : Formats tab) (PI : Parses tab) (J : Joins tab) (E : ExtIdx tab) {aw : AW} {K : V → AW → Prop} (h : ∀ w, Frm (fun _ => False) aw w → K (.bool true) w) : WF tab n_law8_begun [] aw K := by
  refine WF_of C.c_law8_begun rfl ?_
  refine WS_run 1000 (by simp only [go_sem, eRun_exit, simprocAttr, k_law8_begun, k_law8_begun_p3]; rfl) ?_
  refine WS_call (by simp only [go_sem, eRun_exit, simprocAttr]) (by simp only [go_sem, eRun_exit, simprocAttr]; rfl) ?_
  refine sprogram_ok C PI E (s := bgnT) (by decide) (by decide) fun w1 v T h1 h2 h3 => ?_
  rw [bgn_read] at h1 ⊢
  refine WS_run 1000 (by simp only [go_sem, eRun_exit, simprocAttr, k_law8_begun_p2]; rfl) ?_
  refine WS_call (by simp only [go_sem, eRun_exit, simprocAttr]) (by simp only [go_sem, eRun_exit, simprocAttr]; rfl) ?_
  refine sfact_ok C PI E (s := [113, 40, 97, 44, 32, 45, 51, 41, 46]) (by decide) (by decide) fun w2 xs T2 g1 g2 g3 => ?_
  rw [bgn_fact] at g1 ⊢
  obtain ⟨xl, xo⟩ := g1.one
  obtain ⟨av, rfl, hav⟩ := g1
  obtain ⟨w3, s3, c3, r3, n3⟩ := boxed w2 (zs := [V.str [], V.nilslice]) (vs := [.str [113], av]) rfl xo
  refine WS_run 1000 (by simp only [go_sem, eRun_exit, simprocAttr, xl, s3, k_law8_begun_p1]; rfl) ?_
  refine WS_call (by simp only [go_sem, eRun_exit, simprocAttr]) (by simp only [go_sem, eRun_exit, simprocAttr]; rfl) ?_
  refine sfact_ok C PI E (s := [113, 40, 88, 41]) (by decide) (by decide) fun w4 ys T4 k1 k2 k3 => ?_
  rw [bgn_no]
  obtain ⟨yl, yo⟩ := k1.one
  obtain ⟨w5, s5, c5, r5, n5⟩ := boxed w4 (zs := [V.str [], V.nilslice]) (vs := ys) (by rw [yl]; rfl) yo
  have f15 : Frm (fun _ => False) w1 w5 := (((g2.tr r3).tr k2).tr r5)
  have hrl := h1.frm (fun _ _ h => h.frm f15 fun _ _ h => h) f15 fun _ _ h => h
  obtain ⟨b, o, c, xs, rfl, la, hR⟩ := rls_at3 hrl (i := 0) (t := bgnR) rfl
  rw [Nat.zero_mul, Nat.add_zero] at la
  have hlen1 : ([bgnR] : List Rl).length = 1 := rfl
  rw [hlen1]
  refine WS_run 1000 (by simp only [go_sem, eRun_exit, simprocAttr, yl, s5, k_law8_begun_p0, la]; rfl) ?_
  refine WS_call (by simp only [go_sem, eRun_exit, simprocAttr]) (by simp only [go_sem, eRun_exit, simprocAttr]; rfl) ?_
  refine sprint_ok C F J hR bgn_ok fun w6 g6 => ?_
  rw [bgn_print]
  have heq : strS BinOp.eql bgnT [112, 40, 88, 41, 32, 58, 45, 32, 113, 40, 88, 44, 32, 51, 41, 44, 32, 33, 114, 40, 88, 41, 44, 32, 88, 32, 33, 61, 32, 97, 46] = some (.bool true) := (by simp [strS, eqLd] : strS BinOp.eql bgnT bgnT = some (.bool true))
  have f36 : Frm (fun _ => False) w3 w6 := (k2.tr r5).tr g6
  have c6 := c3.frm f36 fun h => h
  have l1 : w6.load w2.next 1 1 = some [av] := CB.ld c6 1 1 _ rfl
  have hav6 := (hav.frm r3 fun _ _ h => h).frm f36 fun _ _ h => h
  have hlv : lenV av = some 2 := hav6.lenV
  rcases hav6.inv with ⟨_, q2, _⟩ | ⟨b2, o2, c2, rfl, hB⟩
  · cases q2
  have lb : w6.load b2 (o2 + 5) 1 = some [.int .i64 (-3)] := hB.cell (i := 5) (by show 5 < 2 * 3; omega) rfl
  refine WS_run 1000 (by simp only [go_sem, eRun_exit, simprocAttr, heq, l1, hlv, lb, Nat.add_assoc, List.length_cons, List.length_nil]; rfl) ?_
  refine WS_ret ⟨_, by simp only [go_sem, eRun_exit, simprocAttr, k_law8_begun]; rfl, ?_⟩
  exact h w6 (((h2.tr g2).tr r3).tr f36)
end Go.Proofs.YtegdcbdicpfbpaaGreatDoor
set_option linter.unusedVariables false
set_option maxRecDepth 10000
set_option linter.unusedSimpArgs false
namespace Go.Proofs.YtegdcbdicpfbpaaGreatDoor.Val
open Go.AE Delphi
variable {tab : Tab}
def RtI (aw : AW) (name : List Nat) (lv : V) (l : List Tk) (q : Nat) (f : Fr) (w : AW) : Prop :=
  ∃ i, f.get 5 = some (.str (name ++ [40] ++ qS (l.take i))) ∧ f.get 1 = some lv ∧ f.get 6 = some (.int .i64 (Int.ofNat i)) ∧ i ≤ l.length ∧ q = l.length - i ∧ Frm (fun _ => False) aw w
theorem rAtom_ok (C : Codes tab) {T : Nat → Prop} {aw : AW} {name : List Nat} {lv : V} {l : List Tk} {K : V → AW → Prop} (hl : Rd T aw lv 3 l.length (tksC l)) (hn : l.length ≤ 1000) (hm : name.length ≤ 1000) (hp : ∀ t ∈ l, TkPr t)
    (h : ∀ w, Frm (fun _ => False) aw w → K (.str (atomS name l)) w) : WF tab n_ref8_Atom [.str name, lv] aw K := by
  refine WF_of C.c_ref8_Atom rfl ?_
  have hlv := hl.lenV
  by_cases hz : l = []
  · subst hz
    have hlv : lenV lv = some 0 := hlv
    refine WS_run 1000 (by simp only [go_sem, eRun_exit, simprocAttr, k_ref8_Atom, hlv]; rfl) ?_
    refine WS_ret ⟨_, by simp only [go_sem, eRun_exit, simprocAttr, k_ref8_Atom]; rfl, ?_⟩
    exact h aw (Frm.refl _)
  have hlz : l.length ≠ 0 := fun h => hz (List.eq_nil_of_length_eq_zero h)
  have hadd : strS BinOp.add name [40] = some (.str (name ++ [40])) := by simp only [strS, List.length_cons, List.length_nil]; rw [if_pos (by omega)]
  refine WS_run 1000 (by simp only [go_sem, eRun_exit, simprocAttr, k_ref8_Atom, hlv, hlz, hadd]; rfl) ?_
  refine WS_loopJ (RtI aw name lv l) (RtI aw name lv l 0) ?_ ?_ l.length ⟨0, by rw [show name ++ [40] ++ qS (l.take 0) = name ++ [40] by simp [qS]]; exact (by simp only [go_sem, eRun_exit, simprocAttr] <;> rfl), (by simp only [go_sem, eRun_exit, simprocAttr] <;> rfl), (by simp only [go_sem, eRun_exit, simprocAttr] <;> rfl), by omega, rfl, Frm.refl _⟩
  · rintro q f w ⟨i, f5, f1, f6, hi, rfl, hf⟩ ih exit
    by_cases hlt : i < l.length
    case neg =>
      refine WS_runB 1000 (by simp only [go_sem, simprocAttr, k_ref8_Atom_p1, f1, f6, hlv, hlt]; rfl) ?_
      exact exit _ _ _ ⟨i, (by simp only [go_sem, eRun_exit, simprocAttr, f5] <;> rfl), (by simp only [go_sem, eRun_exit, simprocAttr, f1] <;> rfl), (by simp only [go_sem, eRun_exit, simprocAttr, f6] <;> rfl), by omega, by omega, hf⟩ rfl
    obtain ⟨t, ht⟩ : ∃ t, l[i]? = some t := ⟨_, List.getElem?_eq_getElem hlt⟩
    obtain ⟨b, o, c, rfl, hTb, hbl, a3⟩ := tks_at (hl.frm hf fun _ _ h => h) ht
    have hwr : IntKind.wrap .i64 (Int.ofNat i + 1) = Int.ofNat (i + 1) := wrap_succ (by omega)
    have htk : l.take (i + 1) = l.take i ++ [t] := by rw [List.take_add_one, ht]; rfl
    have hpt := hp t (List.mem_of_getElem? ht)
    have hql := qS_len (l.take i) (fun t ht => hp t (List.mem_of_mem_take ht))
    rw [List.length_take] at hql
    have hprt := hpt.len
    by_cases h0 : i = 0
    · subst h0
      have f5 : f.get 5 = some (.str (name ++ [40])) := by rw [f5]; simp [qS]
      rw [Nat.zero_mul, Nat.add_zero] at a3
      have hadd2 : strS BinOp.add (name ++ [40]) (if t.k = 3 then fmtI t.n else t.s) = some (.str (name ++ [40] ++ prT t)) := by
        show strS BinOp.add (name ++ [40]) (prT t) = _
        simp only [strS, List.length_append, List.length_cons, List.length_nil]; rw [if_pos (by omega)]
      refine WS_run 1000 (by simp only [go_sem, eRun_exit, simprocAttr, k_ref8_Atom_p1, k_ref8_Atom_p0, f1, f5, f6, hlv, hlt, a3]; rfl) ?_
      refine WS_call (by simp only [go_sem, eRun_exit, simprocAttr]) (by simp only [go_sem, eRun_exit, simprocAttr]; rfl) ?_
      refine rPrint_ok C hpt.num fun w3 r3 => ?_
      refine WS_run 1000 (by simp only [go_sem, eRun_exit, simprocAttr, hadd2, f6, hwr]; rfl) ?_
      refine ih _ _ _ (by omega) ⟨1, ?_, (by simp only [go_sem, eRun_exit, simprocAttr, f1] <;> rfl), (by simp only [go_sem, eRun_exit, simprocAttr] <;> rfl), by omega, rfl, hf.tr r3⟩
      rw [htk]
      have : name ++ [40] ++ qS (l.take 0 ++ [t]) = name ++ [40] ++ prT t := by simp [qS]
      rw [this]; exact (by simp only [go_sem, eRun_exit, simprocAttr] <;> rfl)
    · have hne : l.take i ≠ [] := by intro h; have := congrArg List.length h; rw [List.length_take] at this; simp only [List.length_nil] at this; omega
      have hp0 : 0 < i := by omega
      have hmin : min i l.length ≤ 1000 := by omega
      have hadd : strS BinOp.add (name ++ [40] ++ qS (l.take i)) [44, 32] = some (.str (name ++ [40] ++ qS (l.take i) ++ [44, 32])) := by simp only [strS, List.length_append, List.length_cons, List.length_nil]; rw [if_pos (by omega)]
      have hadd2 : strS BinOp.add (name ++ [40] ++ qS (l.take i) ++ [44, 32]) (if t.k = 3 then fmtI t.n else t.s) = some (.str (name ++ [40] ++ qS (l.take i) ++ [44, 32] ++ prT t)) := by
        show strS BinOp.add _ (prT t) = _
        simp only [strS, List.length_append, List.length_cons, List.length_nil]; rw [if_pos (by omega)]
      refine WS_run 1000 (by simp only [go_sem, eRun_exit, simprocAttr, k_ref8_Atom_p1, k_ref8_Atom_p0, f1, f5, f6, hlv, hlt, a3, hadd, hp0]; rfl) ?_
      refine WS_call (by simp only [go_sem, eRun_exit, simprocAttr]) (by simp only [go_sem, eRun_exit, simprocAttr]; rfl) ?_
      refine rPrint_ok C hpt.num fun w3 r3 => ?_
      refine WS_run 1000 (by simp only [go_sem, eRun_exit, simprocAttr, hadd2, f6, hwr]; rfl) ?_
      refine ih _ _ _ (by omega) ⟨i + 1, ?_, (by simp only [go_sem, eRun_exit, simprocAttr, f1] <;> rfl), (by simp only [go_sem, eRun_exit, simprocAttr] <;> rfl), by omega, rfl, hf.tr r3⟩
      rw [htk]
      have : name ++ [40] ++ qS (l.take i ++ [t]) = name ++ [40] ++ qS (l.take i) ++ [44, 32] ++ prT t := by
        rw [qS_snoc _ _ hne]; simp only [List.append_assoc]
      rw [this]; exact (by simp only [go_sem, eRun_exit, simprocAttr] <;> rfl)
  · rintro f w ⟨i, f5, f1, f6, hi, hq, hf⟩
    obtain rfl : i = l.length := by omega
    rw [List.take_of_length_le (Nat.le_refl _)] at f5
    have hql := qS_len l hp
    have h := h w hf
    have e : atomS name l = name ++ [40] ++ qS l ++ [41] := by cases l with | nil => exact (hz rfl).elim | cons x l => rfl
    rw [e] at h
    have hadd : strS BinOp.add (name ++ [40] ++ qS l) [41] = some (.str (name ++ [40] ++ qS l ++ [41])) := by simp only [strS, List.length_append, List.length_cons, List.length_nil]; rw [if_pos (by omega)]
    refine WS_run 1000 (by simp only [go_sem, eRun_exit, simprocAttr, f5, hadd]; rfl) ?_
    refine WS_ret ⟨_, by simp only [go_sem, eRun_exit, simprocAttr, k_ref8_Atom]; rfl, ?_⟩
    exact h
end Go.Proofs.YtegdcbdicpfbpaaGreatDoor.Val
set_option linter.unusedVariables false
set_option linter.unusedSimpArgs false
namespace Delphi
theorem take_takeWhile {p : Nat → Bool} (l : List Nat) : l.take (l.takeWhile p).length = l.takeWhile p := by
  have := (List.takeWhile_prefix (p := p) (l := l))
  exact (List.prefix_iff_eq_take.1 this).symm
theorem blk_word (u : List Nat) (h : (lexWord u).2 ≠ 0) : blk false u = 0 := by
  cases u with
  | nil => rfl
  | cons c t =>
    have hb : ∀ n, n ∈ [32, 9, 10, 13, 37] → c ≠ n := by
      intro n hn hc
      subst hc
      simp only [List.mem_cons, List.not_mem_nil, or_false] at hn
      rcases hn with rfl | rfl | rfl | rfl | rfl <;> exact absurd rfl h
    simp [blk, isBlank, hb 32 (by simp), hb 9 (by simp), hb 10 (by simp), hb 13 (by simp), hb 37 (by simp)]
def IsWd (w : Wd) : Prop := ∃ u, (lexWord u).2 ≠ 0 ∧ w.kind = (lexWord u).1 ∧ w.text = u.take (lexWord u).2 ∧ ¬ ((lexWord u).1 ≠ 4 ∧ 16 < (lexWord u).2)
theorem scan_words : ∀ (n at' : Nat) (s : List Nat), s.length ≤ n → ∀ w ∈ (scan at' s).1, IsWd w
  | n, at', s, hn => by
    rw [scan_eq]
    split
    · intro w hw; simp at hw
    · rename_i c t hd
      split
      · intro w hw; simp at hw
      · rename_i hbad
        have hb := blk_le false s
        have hlen : (c :: t).length = s.length - blk false s := by rw [← hd]; simp
        have hm : (lexWord (c :: t)).2 ≠ 0 := fun he => hbad (.inl he)
        have hl2 : ((c :: t).drop (lexWord (c :: t)).2).length < s.length := by simp only [List.length_drop, List.length_cons] at *; omega
        intro w hw
        rcases List.mem_cons.1 hw with rfl | hw
        · exact ⟨c :: t, hm, rfl, rfl, fun h => hbad (.inr h)⟩
        · match n, hn with
          | 0, hn => simp only [List.length_cons] at hlen; omega
          | n + 1, hn => exact scan_words n _ _ (by omega) w hw
end Delphi
set_option linter.unusedVariables false
set_option linter.unusedSimpArgs false
namespace Delphi
def Gap (g : List Nat) : Prop := ∀ (r : List Nat), blk false (g ++ r) = g.length + blk false r
theorem Gap.scan {g : List Nat} (h : Gap g) (n : Nat) (r : List Nat) : scan n (g ++ r) = scan (n + g.length) r := by
  have := scan_skip n (g ++ r) g.length (by rw [List.drop_left]; exact h r)
  rw [List.drop_left] at this
  exact this
theorem gap_nil : Gap [] := fun r => by simp
theorem gap_one {c : Nat} (h : isBlank c = true) : Gap [c] := fun r => by simp [blk, h]; omega
theorem Gap.app {g g' : List Nat} (h : Gap g) (h' : Gap g') : Gap (g ++ g') := fun r => by rw [List.append_assoc, h, h', List.length_append]; omega
structure Tok where
  gap : List Nat
  kind : Nat
  text : List Nat
def Tok.wd (t : Tok) : Wd := ⟨t.kind, t.text, 0⟩
def sW (w : Wd) : Wd := ⟨w.kind, w.text, 0⟩
def laidT : List Tok → List Nat
  | [] => []
  | t :: l => t.gap ++ (t.text ++ laidT l)
def LxAll : List Tok → List Nat → Prop
  | [], _ => True
  | t :: l, r => Gap t.gap ∧ t.text ≠ [] ∧ (t.kind ≠ 4 → t.text.length ≤ 16) ∧ lexWord (t.text ++ (laidT l ++ r)) = (t.kind, t.text.length) ∧ LxAll l r
theorem laidT_app : ∀ (l m : List Tok), laidT (l ++ m) = laidT l ++ laidT m
  | [], m => rfl
  | t :: l, m => by simp only [List.cons_append, laidT, laidT_app l m, List.append_assoc]
theorem LxAll.app : ∀ {l m : List Tok} {r : List Nat}, LxAll l (laidT m ++ r) → LxAll m r → LxAll (l ++ m) r
  | [], m, r, _, h => h
  | t :: l, m, r, h, h' => by
    obtain ⟨h1, h2, h3, h4, h5⟩ := h
    refine ⟨h1, h2, h3, ?_, LxAll.app h5 h'⟩
    have e : laidT (l ++ m) ++ r = laidT l ++ (laidT m ++ r) := by rw [laidT_app, List.append_assoc]
    show lexWord (t.text ++ (laidT (l ++ m) ++ r)) = _
    rw [e]; exact h4
theorem scan_word {k n : Nat} {s r : List Nat} (h0 : s ≠ []) (h16 : k ≠ 4 → s.length ≤ 16) (hl : lexWord (s ++ r) = (k, s.length)) : scan n (s ++ r) = (⟨k, s, n⟩ :: (scan (n + s.length) r).1, (scan (n + s.length) r).2) := by
  have hpos : 0 < s.length := List.length_pos_iff.2 h0
  have hb : blk false (s ++ r) = 0 := blk_word _ (by rw [hl]; show s.length ≠ 0; omega)
  obtain ⟨c, t, hct⟩ : ∃ c t, s ++ r = c :: t := by
    cases hq : s ++ r with
    | nil => simp at hq; exact absurd hq.1 h0
    | cons c t => exact ⟨c, t, rfl⟩
  rw [scan_eq, hb, List.drop_zero, hct]
  simp only
  rw [← hct, hl, if_neg]
  · simp only [Nat.add_zero, List.take_left, List.drop_left]
  · rintro (hh | hh)
    · exact absurd hh (by show s.length ≠ 0; omega)
    · exact absurd hh.2 (by have := h16 hh.1; show ¬ 16 < s.length; omega)
theorem scan_laid : ∀ (l : List Tok) (n : Nat) (r : List Nat), LxAll l r → ∃ ws m, ws.map sW = l.map Tok.wd ∧ scan n (laidT l ++ r) = (ws ++ (scan m r).1, (scan m r).2)
  | [], n, r, _ => ⟨[], n, rfl, rfl⟩
  | t :: l, n, r, h => by
    obtain ⟨h1, h2, h3, h4, h5⟩ := h
    obtain ⟨ws, m, h6, h7⟩ := scan_laid l (n + t.gap.length + t.text.length) r h5
    refine ⟨⟨t.kind, t.text, n + t.gap.length⟩ :: ws, m, ?_, ?_⟩
    · rw [List.map_cons, List.map_cons, h6]; rfl
    · have e : laidT (t :: l) ++ r = t.gap ++ (t.text ++ (laidT l ++ r)) := by simp only [laidT, List.append_assoc]
      rw [e, h1.scan, scan_word h2 h3 h4, h7]
      rfl
def Ends (p : Nat → Bool) (r : List Nat) : Prop := ∀ x, r.head? = some x → p x = false
theorem takeWhile_ends {p : Nat → Bool} {s r : List Nat} (hs : ∀ x ∈ s, p x = true) (hr : Ends p r) : (s ++ r).takeWhile p = s := by
  induction s with
  | nil =>
    cases r with
    | nil => rfl
    | cons x r => simp [hr x rfl]
  | cons y s ih => rw [List.cons_append, List.takeWhile_cons_of_pos (hs y (by simp)), ih fun z hz => hs z (by simp [hz])]
def nameT (s : List Nat) : Prop := ∃ c t, s = c :: t ∧ isSmall c = true ∧ (∀ x ∈ s, isNamed x = true) ∧ s.length ≤ 16
def varT (s : List Nat) : Prop := ∃ c t, s = c :: t ∧ isGreat c = true ∧ (∀ x ∈ s, isVarC x = true) ∧ s.length ≤ 16
def decT (s : List Nat) : Prop := s.length ≤ 16 ∧ ((s = [48]) ∨ ∃ m c t, s = m ++ c :: t ∧ (m = [] ∨ m = [45]) ∧ isDigit c = true ∧ c ≠ 48 ∧ ∀ x ∈ t, isDigit x = true)
theorem small_great {c : Nat} (h : isGreat c = true) : isSmall c = false := by
  unfold isGreat at h; unfold isSmall
  simp only [Bool.and_eq_true, decide_eq_true_eq] at h
  simp; omega
theorem small_digit {c : Nat} (h : (isDigit c || decide (c = 45)) = true) : isSmall c = false ∧ isGreat c = false := by
  unfold isDigit at h; unfold isSmall isGreat
  simp only [Bool.or_eq_true, Bool.and_eq_true, decide_eq_true_eq] at h
  simp; omega
theorem lx_name {s r : List Nat} (h : nameT s) (hr : Ends isNamed r) : lexWord (s ++ r) = (1, s.length) := by
  obtain ⟨c, t, rfl, h1, h2, _⟩ := h
  have := takeWhile_ends h2 hr
  rw [List.cons_append] at this ⊢
  simp only [lexWord, h1, if_true, this]
theorem lx_var {s r : List Nat} (h : varT s) (hr : Ends isVarC r) : lexWord (s ++ r) = (2, s.length) := by
  obtain ⟨c, t, rfl, h1, h2, _⟩ := h
  have := takeWhile_ends h2 hr
  rw [List.cons_append] at this ⊢
  simp only [lexWord, small_great h1, h1, if_true, this, Bool.false_eq_true, if_false]
theorem lx_num {s r : List Nat} (h : decT s) (hr : Ends isDigit r) : lexWord (s ++ r) = (3, s.length) := by
  have key : ∀ {c : Nat} {t : List Nat}, (isDigit c || decide (c = 45)) = true → numberLen (c :: t) = s.length → s ++ r = c :: t → lexWord (s ++ r) = (3, s.length) := by
    intro c t hc hn he
    obtain ⟨q1, q2⟩ := small_digit hc
    rw [he]
    simp only [lexWord, q1, q2, hc, Bool.false_eq_true, if_false, if_true, hn]
  obtain ⟨_, h⟩ := h
  rcases h with rfl | ⟨m, c, t, rfl, hm, hc, h48, ht⟩
  · refine key (c := 48) (t := r) (by decide) ?_ rfl
    unfold numberLen
    have : ((48 :: r).takeWhile isDigit).length ≠ 0 := by
      rw [List.takeWhile_cons_of_pos (by decide)]; simp
    simp only [List.head?_cons, Option.some.injEq, Nat.reduceEqDiff, if_false, List.drop_zero, this, Nat.zero_ne_one, false_and, List.getElem?_cons_zero, if_true, List.length_cons, List.length_nil]
  · have htw : ((c :: t) ++ r).takeWhile isDigit = c :: t := takeWhile_ends (fun x hx => by
      rcases List.mem_cons.1 hx with rfl | hx
      · exact hc
      · exact ht x hx) hr
    rcases hm with rfl | rfl
    · refine key (c := c) (t := t ++ r) (by simp [hc]) ?_ (by simp)
      unfold numberLen
      have h45 : ¬ c = 45 := by intro h; subst h; exact absurd hc (by decide)
      rw [List.cons_append] at htw
      simp only [List.head?_cons, Option.some.injEq, h45, if_false, List.drop_zero, htw, List.length_cons, Nat.add_eq_zero_iff, Nat.one_ne_zero, and_false, Nat.zero_ne_one, false_and, List.getElem?_cons_zero, h48, Nat.zero_add, List.nil_append]
    · refine key (c := 45) (t := c :: t ++ r) (by decide) ?_ (by simp)
      unfold numberLen
      rw [List.cons_append] at htw
      simp only [List.head?_cons, if_true, List.drop_succ_cons, List.drop_zero, List.cons_append, htw, List.length_cons, Nat.add_eq_zero_iff, Nat.one_ne_zero, and_false, if_false, List.getElem?_cons_succ, List.getElem?_cons_zero, Option.some.injEq, h48, List.nil_append, true_and]
      omega
theorem lx_sign {s r : List Nat} (h : s ∈ [[58, 45], [33, 61], [60, 61], [40], [41], [44], [46], [61]]) : lexWord (s ++ r) = (4, s.length) := by
  simp only [List.mem_cons, List.not_mem_nil, or_false] at h
  rcases h with rfl | rfl | rfl | rfl | rfl | rfl | rfl | rfl <;> rfl
theorem lx_sign2 {c : Nat} {r : List Nat} (h : c = 33 ∨ c = 60) (hr : r.head? ≠ some 61) : lexWord ([c] ++ r) = (4, 1) := by
  cases r with
  | nil => rcases h with rfl | rfl <;> rfl
  | cons x r =>
    have hx : ¬ x = 61 := fun h => hr (by rw [h]; rfl)
    have hx' : (61 == x) = false := by simpa using fun h : 61 = x => hx h.symm
    rcases h with rfl | rfl <;> simp [lexWord, isSmall, isGreat, isDigit, signs, List.find?, List.isPrefixOf, hx']
end Delphi
set_option linter.unusedVariables false
set_option linter.unusedSimpArgs false
namespace Delphi
theorem sW_at (ws : List Wd) (k : Nat) : (ws.map sW)[k]? = (ws[k]?).map sW := List.getElem?_map ..
theorem rSign_sW (ws : List Wd) (k : Nat) (s : List Nat) : rSign (ws.map sW) k s = rSign ws k s := by
  unfold rSign; rw [sW_at]; cases ws[k]? <;> rfl
theorem rNext_sW (ws : List Wd) (k e : Nat) : rNext (ws.map sW) k e = (rNext ws k e).map sW := by
  unfold rNext; split
  · exact sW_at ws k
  · rfl
theorem rTerm_sW (ws : List Wd) (k e : Nat) : rTerm (ws.map sW) k e = rTerm ws k e := by
  unfold rTerm; rw [rNext_sW]; cases rNext ws k e <;> rfl
theorem rCmpAt_sW (ws : List Wd) (k : Nat) : rCmpAt (ws.map sW) k = rCmpAt ws k := by
  unfold rCmpAt; rw [sW_at]; cases ws[k]? <;> rfl
theorem rKind_sW (ws : List Wd) (k : Nat) : rKind (ws.map sW) k = rKind ws k := by
  unfold rKind; rw [sW_at]; cases ws[k]? <;> rfl
theorem rEat_sW (ws : List Wd) (s : List Nat) (k e : Nat) : rEat (ws.map sW) s k e = rEat ws s k e := by
  unfold rEat; rw [rSign_sW]
theorem rArgs_sW (ws : List Wd) : ∀ (n : Nat) (args : List Tm) (k e : Nat), rArgs (ws.map sW) n args k e = rArgs ws n args k e
  | 0, _, _, _ => rfl
  | n + 1, args, k, e => by simp only [rArgs, rTerm_sW, rSign_sW, rArgs_sW ws n]
theorem rAtom_sW (ws : List Wd) (k e : Nat) : rAtom (ws.map sW) k e = rAtom ws k e := by
  unfold rAtom
  rw [rNext_sW, rSign_sW, rArgs_sW, List.length_map]
  simp only [rEat_sW]
  cases rNext ws k e <;> rfl
theorem rLit_sW (ws : List Wd) (k e : Nat) : rLit (ws.map sW) k e = rLit ws k e := by
  simp only [rLit, rSign_sW, rAtom_sW, rKind_sW, rCmpAt_sW, rTerm_sW]
theorem rBody_sW (ws : List Wd) : ∀ (n : Nat) (l : List Lt) (k e : Nat), rBody (ws.map sW) n l k e = rBody ws n l k e
  | 0, _, _, _ => rfl
  | n + 1, l, k, e => by simp only [rBody, rLit_sW, rSign_sW, rBody_sW ws n]
theorem rClause_sW (ws : List Wd) (k e : Nat) : rClause (ws.map sW) k e = rClause ws k e := by
  simp only [rClause, rAtom_sW, rSign_sW, rBody_sW, rEat_sW, List.length_map]
theorem rRules_sW (ws : List Wd) : ∀ (n : Nat) (l : List Rl) (k e : Nat), rRules (ws.map sW) n l k e = rRules ws n l k e
  | 0, _, _, _ => rfl
  | n + 1, l, k, e => by simp only [rRules, rClause_sW, rRules_sW ws n, List.length_map]
def rProg (ws : List Wd) (wh : Bool) : List Rl × Nat :=
  let r := rRules ws (ws.length + 1) [] 0 0
  let e := rBad r.2.2 (if wh then 0 else 4)
  if e = 0 then (r.1, 0) else ([], e)
theorem rProgram_ws {s : List Nat} (h : s.length ≤ 4000) : rProgram s = rProg (scan 0 s).1 (scan 0 s).2 := by
  unfold rProgram; rw [if_neg (by omega)]; rfl
theorem rProg_sW (ws : List Wd) (wh : Bool) : rProg (ws.map sW) wh = rProg ws wh := by
  unfold rProg; rw [rRules_sW, List.length_map]
end Delphi
