/- A part of the proof: PSyn6, PSyn7, PSyn8, W8, XVal, PVal1, PVal2, PVal3, PVal4, PVal5, PPar1. -/
import Derived.Test.YtegdcbdicpfbpaaGreatDoorSgJ
import Derived.Test.YtegdcbdicpfbpaaGreatDoorSgG
set_option linter.unusedVariables false
set_option maxRecDepth 10000
set_option linter.unusedSimpArgs false
namespace Go.Proofs.YtegdcbdicpfbpaaGreatDoor
open Go.AE Delphi
variable {tab : Tab}
theorem buf_one {S : Nat → Prop} {w : AW} {v : V} {esz n : Nat} {cs : List V} (h : Buf S w v esz n cs) : v.one = true ∧ v.cells = [v] := by
  rcases h.inv with ⟨rfl, _⟩ | ⟨_, rfl, _⟩ <;> exact ⟨rfl, rfl⟩
structure BS (a w : AW) (bp n8 : Nat) (wv : V) (hd : Lt) (hv : V) (body : List Lt) (k e : Nat) (bv : V) (S T : Nat → Prop) (xss : List (List V)) : Prop where
  p : PSt w bp wv k e
  frm : Frm (fun b => b = bp) a w
  rule : CB w n8 [.int .i64 (Int.ofNat hd.kind), .str hd.name, hv, bv]
  head : Rd T w hv 3 hd.args.length (tmsC hd.args)
  buf : Buf S w bv 3 body.length xss.flatten
  lits : All2 (LtC T w) body xss
  sepS : ∀ x, S x → a.next ≤ x ∧ x < w.next ∧ x ≠ n8 ∧ ¬ T x
  sepT : ∀ x, T x → a.next ≤ x ∧ x < w.next ∧ x ≠ n8
structure BF (f : Fr) (bp n8 : Nat) (v5 v7 : V) : Prop where
  f5 : f.get 5 = some v5
  f6 : f.get 6 = some (.ptr bp 0)
  f7 : f.get 7 = some v7
  f8 : f.get 8 = some (.ptr n8 0)
def BodI (a : AW) (bp n8 : Nat) (wv : V) (hd : Lt) (hv : V) (ws : List Wd) (v5 v7 : V) (fin : List Lt × Nat × Nat) (q : Nat) (f : Fr) (w : AW) : Prop :=
  ∃ body k e bv S T xss, BF f bp n8 v5 v7 ∧ BS a w bp n8 wv hd hv body k e bv S T xss ∧ body.length ≤ 7 ∧ k ≤ ws.length ∧ ws.length + 1 ≤ q + k ∧ rBody ws q body k e = fin ∧ (e = 0 → body.length ≤ 6)
def BodJ (a : AW) (bp n8 : Nat) (wv : V) (hd : Lt) (hv : V) (v5 v7 : V) (fin : List Lt × Nat × Nat) (f : Fr) (w : AW) : Prop :=
  ∃ bv S T xss, BF f bp n8 v5 v7 ∧ BS a w bp n8 wv hd hv fin.1 fin.2.1 fin.2.2 bv S T xss
theorem rBody_stop {ws : List Wd} {q : Nat} {l : List Lt} {k e : Nat} (h : e ≠ 0) : rBody ws q l k e = (l, k, e) := by
  cases q with
  | zero => rfl
  | succ q => simp only [rBody, if_neg h]
theorem body_step (C : Codes tab) {Tw : Nat → Prop} {a w : AW} {bp n8 : Nat} {wv : V} {hd : Lt} {hv : V} {ws : List Wd} {v5 v7 : V} {fin : List Lt × Nat × Nat} {q : Nat} {f : Fr} {s : List SI} {Q : Fr → AW → Prop} (hw : Wds Tw a bp wv ws) (hok : ∀ x ∈ ws, WOk x) (hT : ∀ x, Tw x → x < a.next) (hlt : bp < a.next) (hn8 : a.next ≤ n8)
    (hI : BodI a bp n8 wv hd hv ws v5 v7 fin q f w) (ih : ∀ n' f' w', n' < q → BodI a bp n8 wv hd hv ws v5 v7 fin n' f' w' → WS tab (.code (.loop k_ref8_Program_p5) :: .endB 2 :: s) f' w' Q)
    (out : ∀ s' f' w', BodJ a bp n8 wv hd hv v5 v7 fin f' w' → popTo 2 s' = some s → WS tab (.code (.exit 2) :: s') f' w' Q) : WS tab (.code k_ref8_Program_p5 :: .code (.loop k_ref8_Program_p5) :: .endB 2 :: s) f w Q := by
  obtain ⟨body, k, e, bv, S, T, xss, ⟨f5, f6, f7, f8⟩, hA, hl7, hk, hq, hfin, hl6⟩ := hI
  have p2 := hA.p.l2
  by_cases he : e = 0
  case neg =>
    rw [rBody_stop he] at hfin
    refine WS_runB 1000 (by simp only [go_sem, simprocAttr, k_ref8_Program_p5, f6, p2, he]; rfl) ?_
    exact out _ _ _ ⟨bv, S, T, xss, ⟨(by simp only [go_sem, eRun_exit, simprocAttr, f5] <;> rfl), (by simp only [go_sem, eRun_exit, simprocAttr, f6] <;> rfl), (by simp only [go_sem, eRun_exit, simprocAttr, f7] <;> rfl), (by simp only [go_sem, eRun_exit, simprocAttr, f8] <;> rfl)⟩, by rw [← hfin]; exact hA⟩ rfl
  subst he
  have hl6 := hl6 rfl
  obtain ⟨q, rfl⟩ : ∃ q', q = q' + 1 := ⟨q - 1, by omega⟩
  refine WS_run 1000 (by simp only [go_sem, eRun_exit, simprocAttr, k_ref8_Program_p5, f6, p2]; rfl) ?_
  refine WS_call (by simp only [go_sem, eRun_exit, simprocAttr]) (by simp only [go_sem, eRun_exit, simprocAttr]; rfl) ?_
  have hww : Wds Tw w bp wv ws := hw.frm hA.frm fun x hx he => hw.no (he ▸ hx)
  refine plit_ok C hA.p hww hok (fun x hx => Nat.lt_of_lt_of_le (hT x hx) hA.frm.next) hk fun w1 Tn xs q1 q2 q3 q4 => ?_
  simp only [rBody, if_true] at hfin
  have hk1 := rLit_le (e := 0) hk
  have hk1g := rLit_ge ws k 0
  generalize hrt : rLit ws k 0 = rt at hfin q1 hk1 hk1g q3
  obtain ⟨t, k1, e1⟩ := rt
  simp only at hfin q1 hk1 hk1g q3
  obtain ⟨xl, xo⟩ := q3.one
  obtain ⟨w2, s2, c2, r2, n2⟩ := boxed w1 (zs := [V.int .i64 0, V.str [], V.nilslice]) (vs := xs) (by rw [xl]; rfl) xo
  have nx := hA.frm.next
  have nx1 := q2.next
  have hnb : ¬ n8 = bp := by omega
  have p2' := q1.frm r2 fun h => h
  have nS : ∀ x, S x → ¬ x = bp := fun x hx he => by have := (hA.sepS x hx).1; omega
  have nT : ∀ x, T x → ¬ x = bp := fun x hx he => by have := (hA.sepT x hx).1; omega
  have nTn : ∀ x, Tn x → ¬ x = bp := fun x hx he => by have := (q4 x hx).1; omega
  have rule2 := (hA.rule.frm q2 hnb).frm r2 fun h => h
  have buf2 := (hA.buf.frm q2 nS).frm r2 fun _ _ h => h
  have l2 := p2'.l2
  have la : w2.load n8 3 1 = some [bv] := by rw [rule2.load]; rfl
  have lt : w2.load w1.next 0 3 = some xs := c2.all xl
  have hlv := buf2.lenV
  have f02 : Frm (fun b => b = bp) a w2 := hA.frm.tr (q2.tr r2.no)
  have f12 : Frm (fun b => b = bp) w w2 := q2.tr r2.no
  have lits2 : All2 (LtC (fun x => T x ∨ Tn x) w2) (body ++ [t]) (xss ++ [xs]) := by
    refine All2.snoc ((q3.frm r2 fun _ _ h => h).mono fun _ h => .inr h) ?_
    exact hA.lits.imp fun l ys hl => (hl.frm f12 nT).mono fun _ h => .inl h
  have head2 : Rd (fun x => T x ∨ Tn x) w2 hv 3 hd.args.length (tmsC hd.args) := (hA.head.frm f12 nT).mono fun _ h => .inl h
  have sepT2 : ∀ x, T x ∨ Tn x → a.next ≤ x ∧ x < w2.next ∧ x ≠ n8 := by
    rintro x (hx | hx)
    · have := hA.sepT x hx; exact ⟨this.1, by omega, this.2.2⟩
    · have := q4 x hx; have := hA.rule.lt; exact ⟨by omega, by omega, by omega⟩
  obtain ⟨e2, he2⟩ : ∃ e2, e2 = if e1 = 0 ∧ body.length = 6 then 8 else e1 := ⟨_, rfl⟩
  rw [← he2] at hfin
  have hl7' : (body ++ [t]).length ≤ 7 := by rw [List.length_append, List.length_singleton]; omega
  have hl64 : e2 = 0 → (body ++ [t]).length ≤ 6 := by
    intro h0
    rw [List.length_append, List.length_singleton]
    split at he2
    · omega
    · rename_i hn
      have : body.length ≠ 6 := fun h => hn ⟨by omega, h⟩
      omega
  have hfin' : (if rSign ws k1 [44] = true then rBody ws q (body ++ [t]) (k1 + 1) e2 else (body ++ [t], k1, e2)) = fin := hfin
  -- what is left, once the error is told
  have cont : ∀ {fr : Fr} {w3 : AW}, BF fr bp n8 v5 v7 → fr.get 9 = some (.ptr w1.next 0) → PSt w3 bp wv k1 e2 → Frm (fun b => b = bp) w2 w3 → WS tab (.code k_ref8_Program_p3 :: .endB 3 :: .code (.loop k_ref8_Program_p5) :: .endB 2 :: s) fr w3 Q := by
    rintro fr w3 ⟨f5, f6, f7, f8⟩ f9 g1 g2
    have n3 := g2.next
    have buf3 := buf2.frm g2 nS
    have rule3 := rule2.frm g2 hnb
    have c3 := c2.frm g2 (by show ¬ w1.next = bp; omega)
    have hS3 : ∀ b, S b → b < w3.next := fun b hb => by have := (hA.sepS b hb).2; omega
    obtain ⟨v', w5, S5, a1, a2, a3, a4⟩ := buf3.push (news := xs) (bytes := 48) hS3 (by omega) xl xo (by omega) (by omega)
    have nrule : ¬ S n8 := fun h => (hA.sepS _ h).2.2.1 rfl
    have nbp : ¬ S bp := fun h => nS _ h rfl
    obtain ⟨vone, vc⟩ := buf_one a2
    have rule5 := rule3.frm a3 nrule
    have pf : Frm (fun b => b = n8) w5 (w5.put n8 [.int .i64 (Int.ofNat hd.kind), .str hd.name, hv, v']) := put_frm
    have n5 := a3.next
    have b1 : w3.load n8 3 1 = some [bv] := by rw [rule3.load]; rfl
    have b2 := c3.all xl
    have b4 := elems_fresh (w := w3) (c := .known 1) (by omega : 0 < 1) (by rw [xl] : xs.length = 1 * 3)
    have b5 := rule5.set (i := 3) (v := v') (by simp) vone
    have sS5 : ∀ x, S5 x → a.next ≤ x ∧ x < w5.next ∧ x ≠ n8 ∧ ¬ (T x ∨ Tn x) := by
      intro x hx
      obtain ⟨m1, m2⟩ := a4 x hx
      have hr := hA.rule.lt
      rcases m2 with m2 | m2
      · obtain ⟨y1, y2, y3, y4⟩ := hA.sepS x m2
        refine ⟨y1, m1, y3, ?_⟩
        rintro (h | h)
        · exact y4 h
        · have := (q4 x h).1; omega
      · refine ⟨by omega, m1, by omega, fun h => ?_⟩
        have := (sepT2 x h).2.1; omega
    have nT2 : ∀ x, (T x ∨ Tn x) → ¬ x = bp := fun x hx => hx.elim (nT x) (nTn x)
    have nT3 : ∀ x, (T x ∨ Tn x) → ¬ S x := by
      rintro x (hx | hx) h
      · exact (hA.sepS x h).2.2.2 hx
      · have := (q4 x hx).1; have := (hA.sepS x h).2.1; omega
    have nT4 : ∀ x, (T x ∨ Tn x) → ¬ x = n8 := fun x hx => (sepT2 x hx).2.2
    have hA5 : BS a (w5.put n8 [.int .i64 (Int.ofNat hd.kind), .str hd.name, hv, v']) bp n8 wv hd hv (body ++ [t]) k1 e2 v' S5 (fun x => T x ∨ Tn x) (xss ++ [xs]) := by
      refine ⟨(g1.frm a3 nbp).frm pf (fun h => hnb h.symm), ?_, put_cb rule5.lt, ((head2.frm g2 nT2).frm a3 nT3).frm pf nT4, ?_, lits2.imp fun l ys hl => ((hl.frm g2 nT2).frm a3 nT3).frm pf nT4, fun x hx => sS5 x hx, fun x hx => ?_⟩
      · refine ((f02.tr g2).trans a3 (fun _ _ h => h) fun x hx h => ?_).out hn8 rfl
        have := (hA.sepS x h).1; omega
      · rw [List.length_append, List.length_singleton, List.flatten_append, List.flatten_cons, List.flatten_nil, List.append_nil]
        exact a2.frm pf fun x hx he => (sS5 x hx).2.2.1 he
      · have := sepT2 x hx; exact ⟨this.1, by have : (w5.put n8 [.int .i64 (Int.ofNat hd.kind), .str hd.name, hv, v']).next = w5.next := rfl; omega, this.2.2⟩
    have hov : over [V.int .i64 0, V.str [], V.nilslice] 0 xs = some xs := by
      have := over_mid [] [V.int .i64 0, V.str [], V.nilslice] [] xs (by rw [xl]; rfl)
      simpa using this
    refine WS_run 1000 (by simp only [go_sem, eRun_exit, simprocAttr, k_ref8_Program_p3, f6, f8, f9, vc, b1, b2, xl, evParts, fillV, hov, a1, b4, b5, List.length_cons, List.length_nil, List.set_cons_succ, List.set_cons_zero]; rfl) ?_
    refine WS_call (by simp only [go_sem, eRun_exit, simprocAttr]) (by simp only [go_sem, eRun_exit, simprocAttr]; rfl) ?_
    have hw5 := hw.frm hA5.frm fun x hx he => hw.no (he ▸ hx)
    refine psign_ok C hA5.p hw5 ?_
    cases hs : rSign ws k1 [44] with
    | true =>
      rw [hs, if_pos rfl] at hfin'
      have hks := rSign_lt hs
      have hwr : IntKind.wrap .i64 (Int.ofNat k1 + 1) = Int.ofNat (k1 + 1) := wrap_succ (by have := hw.len; omega)
      have l1 := hA5.p.l1
      have st := hA5.p.cb.set (i := 1) (v := .int .i64 (Int.ofNat (k1 + 1))) (by simp) rfl
      have pf2 : Frm (fun b => b = bp) (w5.put n8 [.int .i64 (Int.ofNat hd.kind), .str hd.name, hv, v']) ((w5.put n8 [.int .i64 (Int.ofNat hd.kind), .str hd.name, hv, v']).put bp ([wv, .int .i64 (Int.ofNat k1), .int .i64 (Int.ofNat e2)].set 1 (.int .i64 (Int.ofNat (k1 + 1))))) := put_frm
      refine WS_run 1000 (by simp only [go_sem, eRun_exit, simprocAttr, k_ref8_Program_p2, f6, f8, l1, hwr, st, List.length_cons, List.length_nil]; rfl) ?_
      exact ih q _ _ (by omega) ⟨body ++ [t], k1 + 1, e2, v', S5, _, _, ⟨(by simp only [go_sem, eRun_exit, simprocAttr, f5] <;> rfl), (by simp only [go_sem, eRun_exit, simprocAttr, f6] <;> rfl), (by simp only [go_sem, eRun_exit, simprocAttr, f7] <;> rfl), (by simp only [go_sem, eRun_exit, simprocAttr, f8] <;> rfl)⟩, ⟨⟨hA5.p.lt, AE.T.get_put_same⟩, hA5.frm.tr pf2, hA5.rule.frm pf2 hnb, hA5.head.frm pf2 nT2, hA5.buf.frm pf2 fun x hx he => by have := (sS5 x hx).1; omega, hA5.lits.imp fun l ys hl => hl.frm pf2 nT2, hA5.sepS, hA5.sepT⟩, hl7', hks, by omega, hfin', hl64⟩
    | false =>
      rw [hs, if_neg (by simp)] at hfin'
      refine WS_runB 1000 (by simp only [go_sem, simprocAttr, f6]; rfl) ?_
      exact out _ _ _ ⟨v', S5, _, _, ⟨(by simp only [go_sem, eRun_exit, simprocAttr, f5] <;> rfl), (by simp only [go_sem, eRun_exit, simprocAttr, f6] <;> rfl), (by simp only [go_sem, eRun_exit, simprocAttr, f7] <;> rfl), (by simp only [go_sem, eRun_exit, simprocAttr, f8] <;> rfl)⟩, by rw [← hfin']; exact hA5⟩ rfl
  by_cases h6 : e1 = 0 ∧ body.length = 6
  · obtain ⟨rfl, h6⟩ := h6
    rw [h6] at hlv
    rw [if_pos ⟨rfl, h6⟩] at he2
    subst he2
    refine WS_run 1000 (by simp only [go_sem, eRun_exit, simprocAttr, k_ref8_Program_p4, k_ref8_Program_p1, s2, xl, l2, la, hlv, f6, f8]; rfl) ?_
    refine WS_call (by simp only [go_sem, eRun_exit, simprocAttr]) (by simp only [go_sem, eRun_exit, simprocAttr]; rfl) ?_
    refine bad_ok C (x := 8) p2' fun w3 q3 q4 q5 => ?_
    refine WS_runB 1000 (by simp only [go_sem, eRun_exit, simprocAttr]; rfl) ?_
    exact cont ⟨(by simp only [go_sem, eRun_exit, simprocAttr, f5] <;> rfl), (by simp only [go_sem, eRun_exit, simprocAttr, f6] <;> rfl), (by simp only [go_sem, eRun_exit, simprocAttr, f7] <;> rfl), (by simp only [go_sem, eRun_exit, simprocAttr, f8] <;> rfl)⟩ (by simp only [go_sem, eRun_exit, simprocAttr] <;> rfl) q3 q4
  · rw [if_neg h6] at he2
    subst he2
    by_cases h0 : e2 = 0
    · have h6' : ¬ body.length = 6 := fun h => h6 ⟨h0, h⟩
      subst h0
      refine WS_runB 1000 (by simp only [go_sem, eRun_exit, simprocAttr, k_ref8_Program_p4, s2, xl, l2, la, hlv, h6', f6, f8]; rfl) ?_
      exact cont ⟨(by simp only [go_sem, eRun_exit, simprocAttr, f5] <;> rfl), (by simp only [go_sem, eRun_exit, simprocAttr, f6] <;> rfl), (by simp only [go_sem, eRun_exit, simprocAttr, f7] <;> rfl), (by simp only [go_sem, eRun_exit, simprocAttr, f8] <;> rfl)⟩ (by simp only [go_sem, eRun_exit, simprocAttr] <;> rfl) p2' (Frm.refl _)
    · refine WS_runB 1000 (by simp only [go_sem, eRun_exit, simprocAttr, k_ref8_Program_p4, s2, xl, l2, la, h0, f6, f8]; rfl) ?_
      exact cont ⟨(by simp only [go_sem, eRun_exit, simprocAttr, f5] <;> rfl), (by simp only [go_sem, eRun_exit, simprocAttr, f6] <;> rfl), (by simp only [go_sem, eRun_exit, simprocAttr, f7] <;> rfl), (by simp only [go_sem, eRun_exit, simprocAttr, f8] <;> rfl)⟩ (by simp only [go_sem, eRun_exit, simprocAttr] <;> rfl) p2' (Frm.refl _)
end Go.Proofs.YtegdcbdicpfbpaaGreatDoor
set_option linter.unusedVariables false
set_option maxRecDepth 10000
set_option linter.unusedSimpArgs false
namespace Go.Proofs.YtegdcbdicpfbpaaGreatDoor
open Go.AE Delphi
variable {tab : Tab}
def RlC (T : Nat → Prop) (w : AW) (r : Rl) (xs : List V) : Prop := ∃ v u, xs = [.int .i64 (Int.ofNat r.head.kind), .str r.head.name, v, u] ∧ Rd T w v 3 r.head.args.length (tmsC r.head.args) ∧ RdL (LtC T) T w u 3 r.body
theorem RlC.frm {T S : Nat → Prop} {w w' : AW} {r : Rl} {xs : List V} (h : RlC T w r xs) (hf : Frm S w w') (hd : ∀ x, T x → ¬ S x) : RlC T w' r xs := by
  obtain ⟨v, u, h1, h2, h3⟩ := h
  exact ⟨v, u, h1, h2.frm hf hd, h3.frm (fun _ _ h => h.frm hf hd) hf hd⟩
theorem rdl_mono {T T' : Nat → Prop} {w : AW} {u : V} {l : List Lt} (h : RdL (LtC T) T w u 3 l) (ht : ∀ x, T x → T' x) : RdL (LtC T') T' w u 3 l := by
  obtain ⟨xss, h1, h2⟩ := h
  exact ⟨xss, h1.mono ht, h2.imp fun _ _ h => h.mono ht⟩
theorem RlC.mono {T T' : Nat → Prop} {w : AW} {r : Rl} {xs : List V} (h : RlC T w r xs) (ht : ∀ x, T x → T' x) : RlC T' w r xs := by
  obtain ⟨v, u, h1, h2, h3⟩ := h
  exact ⟨v, u, h1, h2.mono ht, rdl_mono h3 ht⟩
theorem RlC.one {T : Nat → Prop} {w : AW} {r : Rl} {xs : List V} (h : RlC T w r xs) : xs.length = 4 ∧ allOne xs = true := by
  obtain ⟨v, u, rfl, h2, xss, h3, _⟩ := h
  refine ⟨rfl, ?_⟩
  rcases h2.inv with ⟨rfl, _⟩ | ⟨_, _, _, rfl, _⟩ <;> rcases h3.inv with ⟨rfl, _⟩ | ⟨_, _, _, rfl, _⟩ <;> rfl
theorem clause_step (C : Codes tab) {Tw : Nat → Prop} {a : AW} {bp k : Nat} {wv : V} {ws : List Wd} {v5 v7 : V} {f : Fr} {s : List SI} {Q : Fr → AW → Prop} (hp : PSt a bp wv k 0) (hw : Wds Tw a bp wv ws) (hok : ∀ x ∈ ws, WOk x) (hT : ∀ x, Tw x → x < a.next) (hk : k ≤ ws.length)
    (f5 : f.get 5 = some v5) (f6 : f.get 6 = some (.ptr bp 0)) (f7 : f.get 7 = some v7)
    (h : ∀ f' w T xs n8, BF f' bp n8 v5 v7 → PSt w bp wv (rClause ws k 0).2.1 (rClause ws k 0).2.2 → Frm (fun b => b = bp) a w → CB w n8 xs → a.next ≤ n8 → RlC T w (rClause ws k 0).1 xs → (∀ x, T x → a.next ≤ x ∧ x < w.next ∧ x ≠ n8) → WS tab (.code k_ref8_Program_p9 :: s) f' w Q) : WS tab (.code k_ref8_Program_p11 :: s) f a Q := by
  have hlt := hp.lt
  have hwl := hw.len
  refine WS_run 1000 (by simp only [go_sem, eRun_exit, simprocAttr, k_ref8_Program_p11, f6]; rfl) ?_
  refine WS_call (by simp only [go_sem, eRun_exit, simprocAttr]) (by simp only [go_sem, eRun_exit, simprocAttr]; rfl) ?_
  refine patom_ok C hp hw hok hT hk fun w1 TH xs q1 q2 q3 q4 => ?_
  have hk1 := rAtom_le (e := 0) hk
  generalize hrt : rAtom ws k 0 = rt at q1 q3 hk1
  obtain ⟨hd, k1, e1⟩ := rt
  simp only at q1 q3 hk1
  obtain ⟨hv, rfl, hrd⟩ := q3
  have hvone : allOne [V.int .i64 (Int.ofNat hd.kind), V.str hd.name, hv, .nilslice] = true := by rcases hrd.inv with ⟨rfl, _⟩ | ⟨_, _, _, rfl, _⟩ <;> rfl
  obtain ⟨w2, s2, c2, r2, n2⟩ := boxed w1 (zs := [V.int .i64 0, V.str [], V.nilslice, V.nilslice]) (vs := [V.int .i64 (Int.ofNat hd.kind), V.str hd.name, hv, .nilslice]) rfl hvone
  have n1 := q2.next
  have p2 := q1.frm r2 fun h => h
  have f02 : Frm (fun b => b = bp) a w2 := q2.tr r2.no
  have hw2 := hw.frm f02 fun y hy he => hw.no (he ▸ hy)
  have hn8 : ¬ w1.next = bp := by omega
  have hrd2 := hrd.frm r2 fun _ _ h => h
  have l2 := p2.l2
  have g5 : f.get 5 = some v5 := f5
  -- the end: eat, and on
  have fin : ∀ {fr : Fr} {w : AW} {body : List Lt} {k' e' : Nat} {bv : V} {S T : Nat → Prop} {xss : List (List V)}, BF fr bp w1.next v5 v7 → fr.get 93 = some (.ptr bp 0) → k' ≤ ws.length → BS a w bp w1.next wv hd hv body k' e' bv S T xss → rClause ws k 0 = (⟨hd, body⟩, (rEat ws [46] k' e').1, (rEat ws [46] k' e').2) →
      WS tab (.ops [⟨some 94, none, .call (.const (.func (.func n_ref8_P_eat) [] [])) [(.tmp 93), (.const (.str [46]))]⟩] :: .code k_ref8_Program_p9 :: s) fr w Q := by
    rintro fr w body k' e' bv S T xss ⟨g5, g6, g7, g8⟩ g93 hk' hA hr
    refine WS_call (by simp only [wanted_none]) (by simp only [go_sem, g93]; rfl) ?_
    have hww := hw.frm hA.frm fun y hy he => hw.no (he ▸ hy)
    refine peat_ok C hA.p hww (by omega) fun w6 u1 u2 u3 => ?_
    refine WS_runB 1000 (by simp only [go_sem, eRun_exit, simprocAttr]; rfl) ?_
    rw [hr] at h
    have nS : ∀ x, S x → ¬ x = bp := fun x hx he => by have := (hA.sepS x hx).1; omega
    have nT : ∀ x, T x → ¬ x = bp := fun x hx he => by have := (hA.sepT x hx).1; omega
    have n6 := u2.next
    refine h _ w6 (fun x => S x ∨ T x) _ w1.next ⟨(by simp only [go_sem, eRun_exit, simprocAttr, g5] <;> rfl), (by simp only [go_sem, eRun_exit, simprocAttr, g6] <;> rfl), (by simp only [go_sem, eRun_exit, simprocAttr, g7] <;> rfl), (by simp only [go_sem, eRun_exit, simprocAttr, g8] <;> rfl)⟩ u1 (hA.frm.tr u2) (hA.rule.frm u2 hn8) n1 ⟨hv, bv, rfl, (hA.head.frm u2 nT).mono fun _ h => .inr h, xss, (hA.buf.rd.frm u2 nS).mono fun _ h => .inl h, hA.lits.imp fun l ys hl => (hl.frm u2 nT).mono fun _ h => .inr h⟩ ?_
    rintro x (hx | hx)
    · have := hA.sepS x hx; exact ⟨this.1, by omega, this.2.2.1⟩
    · have := hA.sepT x hx; exact ⟨this.1, by omega, this.2.2⟩
  have hA0 : BS a w2 bp w1.next wv hd hv [] k1 e1 .nilslice (fun _ => False) TH [] := ⟨p2, f02, c2, hrd2, .nil, .nil, fun _ h => h.elim, fun x hx => by have := q4 x hx; exact ⟨this.1, by omega, by omega⟩⟩
  have hov : over [V.int .i64 0, V.str [], V.nilslice, V.nilslice] 0 [V.int .i64 (Int.ofNat hd.kind), V.str hd.name, hv] = some [V.int .i64 (Int.ofNat hd.kind), V.str hd.name, hv, .nilslice] := rfl
  refine WS_run 1000 (by simp only [go_sem, eRun_exit, simprocAttr, f6, evParts, fillV, hov, s2, k_ref8_Program_p10, List.length_cons, List.length_nil]; rfl) ?_
  refine WS_call (by simp only [go_sem, eRun_exit, simprocAttr]) (by simp only [go_sem, eRun_exit, simprocAttr]; rfl) ?_
  refine psign_ok C p2 hw2 ?_
  cases hs : rSign ws k1 [58, 45] with
  | false =>
    have hr : rClause ws k 0 = (⟨hd, []⟩, (rEat ws [46] k1 e1).1, (rEat ws [46] k1 e1).2) := by
      unfold rClause
      rw [hrt]
      simp only [hs, Bool.false_eq_true, false_and, if_false]
    refine WS_run 1000 (by simp only [go_sem, eRun_exit, simprocAttr, f6]; rfl) ?_
    exact fin ⟨(by simp only [go_sem, eRun_exit, simprocAttr, f5] <;> rfl), (by simp only [go_sem, eRun_exit, simprocAttr, f6] <;> rfl), (by simp only [go_sem, eRun_exit, simprocAttr, f7] <;> rfl), (by simp only [go_sem, eRun_exit, simprocAttr] <;> rfl)⟩ (by simp only [go_sem, eRun_exit, simprocAttr] <;> rfl) hk1 hA0 hr
  | true =>
    by_cases he1 : e1 = 0
    case neg =>
      have hr : rClause ws k 0 = (⟨hd, []⟩, (rEat ws [46] k1 e1).1, (rEat ws [46] k1 e1).2) := by
        unfold rClause
        rw [hrt]
        simp only [hs, he1, and_false, if_false]
      refine WS_run 1000 (by simp only [go_sem, eRun_exit, simprocAttr, f6, l2, he1]; rfl) ?_
      exact fin ⟨(by simp only [go_sem, eRun_exit, simprocAttr, f5] <;> rfl), (by simp only [go_sem, eRun_exit, simprocAttr, f6] <;> rfl), (by simp only [go_sem, eRun_exit, simprocAttr, f7] <;> rfl), (by simp only [go_sem, eRun_exit, simprocAttr] <;> rfl)⟩ (by simp only [go_sem, eRun_exit, simprocAttr] <;> rfl) hk1 hA0 hr
    subst he1
    have hks := rSign_lt hs
    have hwr : IntKind.wrap .i64 (Int.ofNat k1 + 1) = Int.ofNat (k1 + 1) := wrap_succ (by omega)
    have l1 := p2.l1
    have st := p2.cb.set (i := 1) (v := .int .i64 (Int.ofNat (k1 + 1))) (by simp) rfl
    have pf2 : Frm (fun b => b = bp) w2 (w2.put bp ([wv, .int .i64 (Int.ofNat k1), .int .i64 (Int.ofNat 0)].set 1 (.int .i64 (Int.ofNat (k1 + 1))))) := put_frm
    refine WS_run 1000 (by simp only [go_sem, eRun_exit, simprocAttr, f6, l1, l2, hwr, st, k_ref8_Program_p6, List.length_cons, List.length_nil]; rfl) ?_
    refine WS_loopJ (BodI a bp w1.next wv hd hv ws v5 v7 (rBody ws (ws.length + 1) [] (k1 + 1) 0)) (BodJ a bp w1.next wv hd hv v5 v7 (rBody ws (ws.length + 1) [] (k1 + 1) 0)) (fun n f w hI ih out => body_step C hw hok hT hlt n1 hI ih out) ?_ (ws.length + 1)
      ⟨[], k1 + 1, 0, .nilslice, fun _ => False, TH, [], ⟨(by simp only [go_sem, eRun_exit, simprocAttr, f5] <;> rfl), (by simp only [go_sem, eRun_exit, simprocAttr, f6] <;> rfl), (by simp only [go_sem, eRun_exit, simprocAttr, f7] <;> rfl), (by simp only [go_sem, eRun_exit, simprocAttr] <;> rfl)⟩, ⟨⟨p2.lt, AE.T.get_put_same⟩, f02.tr pf2, c2.frm pf2 hn8, hrd2.frm pf2 fun x hx he => by have := (q4 x hx).1; omega, .nil, .nil, fun _ h => h.elim, hA0.sepT⟩, by simp, hks, by omega, rfl, by simp⟩
    rintro f' w ⟨bv, S, T, xss, hBF, hA⟩
    have hk5 := rBody_le (ws := ws) (ws.length + 1) [] (k1 + 1) 0 hks
    have hr : rClause ws k 0 = (⟨hd, (rBody ws (ws.length + 1) [] (k1 + 1) 0).1⟩, (rEat ws [46] (rBody ws (ws.length + 1) [] (k1 + 1) 0).2.1 (rBody ws (ws.length + 1) [] (k1 + 1) 0).2.2).1, (rEat ws [46] (rBody ws (ws.length + 1) [] (k1 + 1) 0).2.1 (rBody ws (ws.length + 1) [] (k1 + 1) 0).2.2).2) := by
      unfold rClause
      rw [hrt]
      simp only [hs, and_self, if_true]
    generalize rBody ws (ws.length + 1) [] (k1 + 1) 0 = rb at hA hk5 hr
    obtain ⟨body, k5, e5⟩ := rb
    obtain ⟨g5, g6, g7, g8⟩ := hBF
    refine WS_run 1000 (by simp only [go_sem, eRun_exit, simprocAttr, g6]; rfl) ?_
    exact fin ⟨(by simp only [go_sem, eRun_exit, simprocAttr, g5] <;> rfl), (by simp only [go_sem, eRun_exit, simprocAttr, g6] <;> rfl), (by simp only [go_sem, eRun_exit, simprocAttr, g7] <;> rfl), (by simp only [go_sem, eRun_exit, simprocAttr, g8] <;> rfl)⟩ (by simp only [go_sem, eRun_exit, simprocAttr] <;> rfl) hk5 hA hr
end Go.Proofs.YtegdcbdicpfbpaaGreatDoor
set_option linter.unusedVariables false
set_option maxRecDepth 10000
set_option linter.unusedSimpArgs false
namespace Go.Proofs.YtegdcbdicpfbpaaGreatDoor
open Go.AE Delphi
variable {tab : Tab}
structure RS (a0 w : AW) (bp : Nat) (wv : V) (rules : List Rl) (k e : Nat) (rv : V) (S T : Nat → Prop) (xss : List (List V)) : Prop where
  p : PSt w bp wv k e
  frm : Frm (fun b => b = bp) a0 w
  buf : Buf S w rv 4 rules.length xss.flatten
  rls : All2 (RlC T w) rules xss
  sepS : ∀ x, S x → a0.next ≤ x ∧ x < w.next ∧ ¬ T x
  sepT : ∀ x, T x → a0.next ≤ x ∧ x < w.next
structure RF (f : Fr) (bp : Nat) (v5 v7 : V) : Prop where
  f5 : f.get 5 = some v5
  f6 : f.get 6 = some (.ptr bp 0)
  f7 : f.get 7 = some v7
def RulI (a0 : AW) (bp : Nat) (wv : V) (ws : List Wd) (v5 : V) (fin : List Rl × Nat × Nat) (q : Nat) (f : Fr) (w : AW) : Prop :=
  ∃ rules k e rv S T xss, RF f bp v5 rv ∧ RS a0 w bp wv rules k e rv S T xss ∧ rules.length ≤ 31 ∧ k ≤ ws.length ∧ (e = 0 → ws.length + 1 ≤ q + k) ∧ rRules ws q rules k e = fin ∧ (e = 0 → rules.length ≤ 30)
def RulJ (a0 : AW) (bp : Nat) (wv : V) (v5 : V) (fin : List Rl × Nat × Nat) (f : Fr) (w : AW) : Prop :=
  ∃ rv S T xss, RF f bp v5 rv ∧ RS a0 w bp wv fin.1 fin.2.1 fin.2.2 rv S T xss
theorem rRules_stop {ws : List Wd} {q : Nat} {l : List Rl} {k e : Nat} (h : ¬ (e = 0 ∧ k < ws.length)) : rRules ws q l k e = (l, k, e) := by
  cases q with
  | zero => rfl
  | succ q => simp only [rRules, if_neg h]
theorem rule_step (C : Codes tab) {Tw : Nat → Prop} {a0 w : AW} {bp : Nat} {wv : V} {ws : List Wd} {v5 : V} {fin : List Rl × Nat × Nat} {q : Nat} {f : Fr} {s : List SI} {Q : Fr → AW → Prop} (hw : Wds Tw a0 bp wv ws) (hok : ∀ x ∈ ws, WOk x) (hT : ∀ x, Tw x → x < a0.next) (hlt : bp < a0.next)
    (hI : RulI a0 bp wv ws v5 fin q f w) (ih : ∀ n' f' w', n' < q → RulI a0 bp wv ws v5 fin n' f' w' → WS tab (.code (.loop k_ref8_Program_p12) :: .endB 0 :: s) f' w' Q)
    (out : ∀ s' f' w', RulJ a0 bp wv v5 fin f' w' → popTo 0 s' = some s → WS tab (.code (.exit 0) :: s') f' w' Q) : WS tab (.code k_ref8_Program_p12 :: .code (.loop k_ref8_Program_p12) :: .endB 0 :: s) f w Q := by
  obtain ⟨rules, k, e, rv, S, T, xss, ⟨f5, f6, f7⟩, hA, hl31, hk, hq, hfin, hl30⟩ := hI
  have l0 := hA.p.l0
  have l1 := hA.p.l1
  have l2 := hA.p.l2
  have hww : Wds Tw w bp wv ws := hw.frm hA.frm fun x hx he => hw.no (he ▸ hx)
  have hlv := hww.rd.lenV
  by_cases he : e = 0
  case neg =>
    rw [rRules_stop (fun h => he h.1)] at hfin
    refine WS_runB 1000 (by simp only [go_sem, simprocAttr, k_ref8_Program_p12, f6, l2, he]; rfl) ?_
    exact out _ _ _ ⟨rv, S, T, xss, ⟨(by simp only [go_sem, eRun_exit, simprocAttr, f5] <;> rfl), (by simp only [go_sem, eRun_exit, simprocAttr, f6] <;> rfl), (by simp only [go_sem, eRun_exit, simprocAttr, f7] <;> rfl)⟩, by rw [← hfin]; exact hA⟩ rfl
  subst he
  by_cases hkl : k < ws.length
  case neg =>
    rw [rRules_stop (fun h => hkl h.2)] at hfin
    refine WS_runB 1000 (by simp only [go_sem, simprocAttr, k_ref8_Program_p12, f6, l0, l1, l2, hlv, hkl]; rfl) ?_
    exact out _ _ _ ⟨rv, S, T, xss, ⟨(by simp only [go_sem, eRun_exit, simprocAttr, f5] <;> rfl), (by simp only [go_sem, eRun_exit, simprocAttr, f6] <;> rfl), (by simp only [go_sem, eRun_exit, simprocAttr, f7] <;> rfl)⟩, by rw [← hfin]; exact hA⟩ rfl
  have hl30 := hl30 rfl
  have hq := hq rfl
  obtain ⟨q, rfl⟩ : ∃ q', q = q' + 1 := ⟨q - 1, by omega⟩
  simp only [rRules] at hfin
  rw [if_pos ⟨trivial, hkl⟩] at hfin
  refine WS_runB 1000 (by simp only [go_sem, eRun_exit, simprocAttr, k_ref8_Program_p12, f6, l0, l1, l2, hlv, hkl]; rfl) ?_
  refine clause_step C (v5 := v5) (v7 := rv) hA.p hww hok (fun x hx => Nat.lt_of_lt_of_le (hT x hx) hA.frm.next) hk (by simp only [go_sem, eRun_exit, simprocAttr, f5] <;> rfl) (by simp only [go_sem, eRun_exit, simprocAttr, f6] <;> rfl) (by simp only [go_sem, eRun_exit, simprocAttr, f7] <;> rfl) ?_
  rintro f' w1 Tn xs n8 ⟨g5, g6, g7, g8⟩ q1 q2 c2 hn8 q3 q4
  have hk1 := rClause_le (e := 0) hk
  have hk1g := rClause_ge ws k 0
  have hgt := rClause_gt (ws := ws) (k := k) (e := 0)
  generalize hrt : rClause ws k 0 = rt at hfin q1 hk1 hk1g q3 hgt
  obtain ⟨t, k1, e1⟩ := rt
  simp only at hfin q1 hk1 hk1g q3 hgt
  obtain ⟨xl, xo⟩ := q3.one
  have nx := hA.frm.next
  have nx1 := q2.next
  have nS : ∀ x, S x → ¬ x = bp := fun x hx he => by have := (hA.sepS x hx).1; omega
  have nT : ∀ x, T x → ¬ x = bp := fun x hx he => by have := (hA.sepT x hx).1; omega
  have nTn : ∀ x, Tn x → ¬ x = bp := fun x hx he => by have := (q4 x hx).1; omega
  have m2 := q1.l2
  have buf1 := hA.buf.frm q2 nS
  have hlr := buf1.lenV
  have la := c2.all xl
  obtain ⟨e2, he2⟩ : ∃ e2, e2 = if e1 = 0 ∧ rules.length = 30 then 8 else e1 := ⟨_, rfl⟩
  rw [← he2] at hfin
  have cont : ∀ {fr : Fr} {w3 : AW}, BF fr bp n8 v5 rv → PSt w3 bp wv k1 e2 → Frm (fun b => b = bp) w1 w3 → WS tab (.code k_ref8_Program_p8 :: .endB 1 :: .code (.loop k_ref8_Program_p12) :: .endB 0 :: s) fr w3 Q := by
    rintro fr w3 ⟨f5, f6, f7, f8⟩ g1 g2
    have n3 := g2.next
    have buf3 := buf1.frm g2 nS
    have hn8b : ¬ n8 = bp := by omega
    have c3 := c2.frm g2 hn8b
    have hS3 : ∀ b, S b → b < w3.next := fun b hb => by have := (hA.sepS b hb).2.1; omega
    obtain ⟨v', w5, S5, a1, a2, a3, a4⟩ := buf3.push (news := xs) (bytes := 72) hS3 (by omega) xl xo (by omega) (by omega)
    have nbp : ¬ S bp := fun h => nS _ h rfl
    have n5 := a3.next
    have b2 := c3.all xl
    have b4 := elems_fresh (w := w3) (c := .known 1) (by omega : 0 < 1) (by rw [xl] : xs.length = 1 * 4)
    have nT2 : ∀ x, (T x ∨ Tn x) → ¬ x = bp := fun x hx => hx.elim (nT x) (nTn x)
    have nT3 : ∀ x, (T x ∨ Tn x) → ¬ S x := by
      rintro x (hx | hx) h
      · exact (hA.sepS x h).2.2 hx
      · have := (q4 x hx).1; have := (hA.sepS x h).2.1; omega
    have hov : over [V.int .i64 0, V.str [], V.nilslice, V.nilslice] 0 xs = some xs := by
      have := over_mid [] [V.int .i64 0, V.str [], V.nilslice, V.nilslice] [] xs (by rw [xl]; rfl)
      simpa using this
    have sT5 : ∀ x, T x ∨ Tn x → a0.next ≤ x ∧ x < w5.next := by
      rintro x (hx | hx)
      · have := hA.sepT x hx; exact ⟨this.1, by omega⟩
      · have := q4 x hx; exact ⟨by omega, by omega⟩
    have hA5 : RS a0 w5 bp wv (rules ++ [t]) k1 e2 v' S5 (fun x => T x ∨ Tn x) (xss ++ [xs]) := by
      refine ⟨g1.frm a3 nbp, ((hA.frm.tr q2).tr g2).trans a3 (fun _ _ h => h) (fun x hx h => by have := (hA.sepS x h).1; omega), ?_, ?_, fun x hx => ?_, sT5⟩
      · rw [List.length_append, List.length_singleton, List.flatten_append, List.flatten_cons, List.flatten_nil, List.append_nil]
        exact a2
      · refine All2.snoc (((q3.mono fun _ h => .inr h).frm g2 nT2).frm a3 nT3) ?_
        exact hA.rls.imp fun r ys hr => (((hr.frm q2 nT).mono fun _ h => .inl h).frm g2 nT2).frm a3 nT3
      · obtain ⟨m1, m2⟩ := a4 x hx
        rcases m2 with m2 | m2
        · obtain ⟨y1, y2, y3⟩ := hA.sepS x m2
          refine ⟨y1, m1, ?_⟩
          rintro (h | h)
          · exact y3 h
          · have := (q4 x h).1; omega
        · refine ⟨by omega, m1, ?_⟩
          rintro (h | h)
          · have := (hA.sepT x h).2; omega
          · have := (q4 x h).2.1; omega
    refine WS_run 1000 (by simp only [go_sem, eRun_exit, simprocAttr, k_ref8_Program_p8, f7, f8, b2, xl, evParts, fillV, hov, a1, b4, List.length_cons, List.length_nil]; rfl) ?_
    have e10 : e2 = 0 → e1 = 0 ∧ rules.length ≠ 30 := by
      intro h0
      rw [h0] at he2
      split at he2
      · omega
      · rename_i hn
        exact ⟨he2.symm, fun h => hn ⟨he2.symm, h⟩⟩
    exact ih q _ _ (by omega) ⟨rules ++ [t], k1, e2, v', S5, _, _, ⟨(by simp only [go_sem, eRun_exit, simprocAttr, f5] <;> rfl), (by simp only [go_sem, eRun_exit, simprocAttr, f6] <;> rfl), (by simp only [go_sem, eRun_exit, simprocAttr] <;> rfl)⟩, hA5, by rw [List.length_append, List.length_singleton]; omega, hk1, fun h0 => by have := hgt (e10 h0).1; omega, hfin, fun h0 => by have := (e10 h0).2; rw [List.length_append, List.length_singleton]; omega⟩
  by_cases h30 : e1 = 0 ∧ rules.length = 30
  · obtain ⟨rfl, h30⟩ := h30
    rw [h30] at hlr
    rw [if_pos ⟨rfl, h30⟩] at he2
    subst he2
    refine WS_run 1000 (by simp only [go_sem, eRun_exit, simprocAttr, k_ref8_Program_p9, k_ref8_Program_p7, g6, g7, m2, hlr]; rfl) ?_
    refine WS_call (by simp only [go_sem, eRun_exit, simprocAttr]) (by simp only [go_sem, eRun_exit, simprocAttr]; rfl) ?_
    refine bad_ok C (x := 8) q1 fun w3 u3 u4 u5 => ?_
    refine WS_runB 1000 (by simp only [go_sem, eRun_exit, simprocAttr]; rfl) ?_
    exact cont ⟨(by simp only [go_sem, eRun_exit, simprocAttr, g5] <;> rfl), (by simp only [go_sem, eRun_exit, simprocAttr, g6] <;> rfl), (by simp only [go_sem, eRun_exit, simprocAttr, g7] <;> rfl), (by simp only [go_sem, eRun_exit, simprocAttr, g8] <;> rfl)⟩ u3 u4
  · rw [if_neg h30] at he2
    subst he2
    by_cases h0 : e2 = 0
    · have h30' : ¬ rules.length = 30 := fun h => h30 ⟨h0, h⟩
      subst h0
      refine WS_runB 1000 (by simp only [go_sem, eRun_exit, simprocAttr, k_ref8_Program_p9, g6, g7, m2, hlr, h30']; rfl) ?_
      exact cont ⟨(by simp only [go_sem, eRun_exit, simprocAttr, g5] <;> rfl), (by simp only [go_sem, eRun_exit, simprocAttr, g6] <;> rfl), (by simp only [go_sem, eRun_exit, simprocAttr, g7] <;> rfl), (by simp only [go_sem, eRun_exit, simprocAttr, g8] <;> rfl)⟩ q1 (Frm.refl _)
    · refine WS_runB 1000 (by simp only [go_sem, eRun_exit, simprocAttr, k_ref8_Program_p9, g6, g7, m2, h0]; rfl) ?_
      exact cont ⟨(by simp only [go_sem, eRun_exit, simprocAttr, g5] <;> rfl), (by simp only [go_sem, eRun_exit, simprocAttr, g6] <;> rfl), (by simp only [go_sem, eRun_exit, simprocAttr, g7] <;> rfl), (by simp only [go_sem, eRun_exit, simprocAttr, g8] <;> rfl)⟩ q1 (Frm.refl _)
theorem rprogram_ok (C : Codes tab) {s : List Nat} {aw : AW} {K : V → AW → Prop} (hs : s.length ≤ 1099511627776) (hb : ∀ x ∈ s, x < 256)
    (h : ∀ w v T, RdL (RlC T) T w v 4 (rProgram s).1 → Frm (fun _ => False) aw w → (∀ x, T x → aw.next ≤ x ∧ x < w.next) → K (.tuple [v, .int .i64 (Int.ofNat (rProgram s).2)]) w) : WF tab n_ref8_Program [.str s] aw K := by
  refine WF_of C.c_ref8_Program rfl ?_
  refine WS_run 1000 (by simp only [go_sem, eRun_exit, simprocAttr, k_ref8_Program, k_ref8_Program_p17]; rfl) ?_
  refine WS_call (by simp only [go_sem, eRun_exit, simprocAttr]) (by simp only [go_sem, eRun_exit, simprocAttr]; rfl) ?_
  refine rscan_ok C hs (fun hl => ?_) fun hl v aw' hown hext => ?_
  · have hr : rProgram s = ([], 8) := by unfold rProgram; rw [if_pos hl]
    rw [hr] at h
    refine WS_run 1000 (by simp only [go_sem, eRun_exit, simprocAttr, k_ref8_Program_p16, k_ref8_Program_p0]; rfl) ?_
    refine WS_ret ⟨_, by simp only [go_sem, eRun_exit, simprocAttr, k_ref8_Program]; rfl, ?_⟩
    exact h aw .nilslice (fun _ => False) ⟨[], .nil, .nil⟩ (Frm.refl _) fun _ h => h.elim
  obtain ⟨e0, he0⟩ : ∃ e0 : Nat, e0 = if (scan 0 s).2 = true then 0 else 4 := ⟨_, rfl⟩
  have hk0 : (if (scan 0 s).2 = true then (0 : Int) else 4) = Int.ofNat e0 := by rw [he0]; split <;> rfl
  rw [hk0]
  have h8 : ¬ e0 = 8 := by rw [he0]; split <;> omega
  obtain ⟨wl, wok⟩ := scan_wok hb
  have hr : rProgram s = if rBad (rRules (scan 0 s).1 ((scan 0 s).1.length + 1) [] 0 0).2.2 e0 = 0 then ((rRules (scan 0 s).1 ((scan 0 s).1.length + 1) [] 0 0).1, 0) else ([], rBad (rRules (scan 0 s).1 ((scan 0 s).1.length + 1) [] 0 0).2.2 e0) := by
    unfold rProgram; rw [if_neg (by omega), he0]
  rw [hr] at h
  clear hr he0 hk0
  generalize (scan 0 s).1 = ws at hown wl wok h
  have hrd := hown.rd
  have nx := hext.next
  obtain ⟨zs, hzs⟩ : ∃ zs, zs = [v, V.int .i64 0, V.int .i64 0] := ⟨_, rfl⟩
  have hov : over [V.nilslice, V.int .i64 0, V.int .i64 0] 0 [v] = some zs := by rw [hzs]; rfl
  have vc : v.cells = [v] := by rcases hrd.inv with ⟨rfl, _⟩ | ⟨_, _, _, rfl, _⟩ <;> rfl
  have f0 : Frm (fun _ => False) aw (aw'.fresh zs) := (hext.frm (S := fun _ => False) fun x hx hn => by omega).tr (fresh_frm _ _)
  have hp : PSt (aw'.fresh zs) aw'.next v 0 0 := by rw [hzs]; exact ⟨Nat.lt_succ_self _, AE.T.get_put_same⟩
  have hw : Wds (fun b => aw.next ≤ b ∧ b < aw'.next) (aw'.fresh zs) aw'.next v ws := ⟨hrd.frm (fresh_frm (S := fun _ => False) _ _) fun _ _ h => h, fun h => by omega, by omega⟩
  refine WS_run 1000 (by simp only [go_sem, eRun_exit, simprocAttr, k_ref8_Program_p16, k_ref8_Program_p15, h8, evParts, fillV, vc, hov, List.length_cons, List.length_nil]; rfl) ?_
  refine WS_loopJ (RulI (aw'.fresh zs) aw'.next v ws (.int .i64 (Int.ofNat e0)) (rRules ws (ws.length + 1) [] 0 0)) (RulJ (aw'.fresh zs) aw'.next v (.int .i64 (Int.ofNat e0)) (rRules ws (ws.length + 1) [] 0 0)) (fun n f w hI ih out => rule_step C hw wok (fun x hx => Nat.lt_succ_of_lt hx.2) (Nat.lt_succ_self _) hI ih out) ?_ (ws.length + 1)
    ⟨[], 0, 0, .nilslice, fun _ => False, fun _ => False, [], ⟨(by simp only [go_sem, eRun_exit, simprocAttr] <;> rfl), (by simp only [go_sem, eRun_exit, simprocAttr] <;> rfl), (by simp only [go_sem, eRun_exit, simprocAttr] <;> rfl)⟩, ⟨hp, Frm.refl _, .nil, .nil, fun _ h => h.elim, fun _ h => h.elim⟩, by simp, by omega, fun _ => by omega, rfl, by simp⟩
  rintro f w ⟨rv, S, T, xss, ⟨f5, f6, f7⟩, hA⟩
  generalize rRules ws (ws.length + 1) [] 0 0 = rr at hA h
  obtain ⟨rules, k, e⟩ := rr
  simp only at hA h
  refine WS_run 1000 (by simp only [go_sem, eRun_exit, simprocAttr, f5, f6]; rfl) ?_
  refine WS_call (by simp only [go_sem, eRun_exit, simprocAttr]) (by simp only [go_sem, eRun_exit, simprocAttr]; rfl) ?_
  refine bad_ok C (x := e0) hA.p fun w3 u3 u4 u5 => ?_
  have l2 := u3.l2
  have n4 := u4.next
  have nn : (aw'.fresh zs).next = aw'.next + 1 := rfl
  have fr3 : Frm (fun _ => False) aw w3 := by
    refine f0.trans (hA.frm.tr u4) (fun _ _ h => h) ?_
    rintro x hx rfl; omega
  by_cases hz : rBad e e0 = 0
  · rw [if_pos hz] at h
    rw [hz] at l2
    refine WS_run 1000 (by simp only [go_sem, eRun_exit, simprocAttr, k_ref8_Program_p14, f6, f7, l2]; rfl) ?_
    refine WS_ret ⟨_, by simp only [go_sem, eRun_exit, simprocAttr, k_ref8_Program]; rfl, ?_⟩
    have nS : ∀ x, S x → ¬ x = aw'.next := fun x hx he => by have := (hA.sepS x hx).1; omega
    have nT : ∀ x, T x → ¬ x = aw'.next := fun x hx he => by have := (hA.sepT x hx).1; omega
    refine h w3 rv (fun x => S x ∨ T x) ⟨xss, (hA.buf.rd.frm u4 nS).mono fun _ h => .inl h, hA.rls.imp fun r ys hr => (hr.frm u4 nT).mono fun _ h => .inr h⟩ fr3 ?_
    rintro x (hx | hx)
    · have := hA.sepS x hx; exact ⟨by omega, by omega⟩
    · have := hA.sepT x hx; exact ⟨by omega, by omega⟩
  · rw [if_neg hz] at h
    refine WS_run 1000 (by simp only [go_sem, eRun_exit, simprocAttr, k_ref8_Program_p14, k_ref8_Program_p13, f6, f7, l2, hz]; rfl) ?_
    refine WS_ret ⟨_, by simp only [go_sem, eRun_exit, simprocAttr, k_ref8_Program]; rfl, ?_⟩
    exact h w3 .nilslice (fun _ => False) ⟨[], .nil, .nil⟩ fr3 fun _ h => h.elim
end Go.Proofs.YtegdcbdicpfbpaaGreatDoor
set_option linter.unusedVariables false
set_option linter.unusedSectionVars false
set_option linter.unusedSimpArgs false
set_option linter.unusedSectionVars false
namespace Go.AE
variable [Globs]
theorem cells_map {b : Nat} : (V.map b).cells = [.map b] := rfl
theorem cells_nilmap : V.nilmap.cells = [.nilmap] := rfl
theorem cells_func {f : Fn} {a c : List V} : (V.func f a c).cells = [.func f a c] := rfl
theorem cells_iface {t : Nat} {v : V} : (V.iface t v).cells = [.iface t v] := rfl
theorem cells_niliface : V.niliface.cells = [.niliface] := rfl
attribute [go_sem] cells_map cells_nilmap cells_func cells_iface cells_niliface
section
variable {α β : Type} [DecidableEq α]
def aget : List (α × β) → α → Option β
  | [], _ => none
  | (a, b) :: l, k => if k = a then some b else aget l k
def aput : List (α × β) → α → β → List (α × β)
  | [], k, v => [(k, v)]
  | (a, b) :: l, k, v => if k = a then (a, v) :: l else (a, b) :: aput l k v
structure KeyE (t : KeyTy) (ke : α → V) : Prop where
  eq : ∀ a b, eqKey t (ke a) (ke b) = some (decide (a = b))
  ok : ∀ a, keyOk t (ke a) = true
def MRel (ke : α → V) (ve : β → V) (p : α × β) (e : V × V × Nat) : Prop := e.1 = ke p.1 ∧ e.2.1 = ve p.2
structure MB (ke : α → V) (ve : β → V) (w : AW) (b : Nat) (M : List (α × β)) : Prop where
  lt : b < w.next
  get : ∃ es ck, w.heap.get b = some (.map es ck) ∧ All2 (MRel ke ve) M es
variable {ke : α → V} {ve : β → V} {t : KeyTy}
theorem MB.frm {S : Nat → Prop} {w w' : AW} {b : Nat} {M : List (α × β)} (h : MB ke ve w b M) (hf : Frm S w w') (hn : ¬ S b) : MB ke ve w' b M := by
  obtain ⟨es, ck, h1, h2⟩ := h.get
  exact ⟨Nat.lt_of_lt_of_le h.lt hf.next, es, ck, (hf.heap b h.lt hn).trans h1, h2⟩
theorem findE_map (hk : KeyE t ke) {k : α} : ∀ {M : List (α × β)} {es : List (V × V × Nat)} (i : Nat), All2 (MRel ke ve) M es →
    (aget M k = none → findE t (ke k) es i = some none) ∧ ∀ v, aget M k = some v → ∃ j n, findE t (ke k) es i = some (some (i + j, ve v, n)) ∧ ∀ v', All2 (MRel ke ve) (aput M k v') (setE j (ke k) (ve v') es)
  | [], _, i, .nil => ⟨fun _ => rfl, fun v h => by simp [aget] at h⟩
  | (a, b) :: M, (x, y, n) :: es, i, .cons h1 h2 => by
    obtain ⟨q1, q2⟩ := h1
    simp only at q1 q2
    subst q1; subst q2
    by_cases h : k = a
    · subst h
      refine ⟨fun hn => by simp [aget] at hn, fun v hv => ?_⟩
      simp only [aget, if_true, Option.some.injEq] at hv
      subst hv
      refine ⟨0, n, by simp only [findE, hk.eq, decide_true, Nat.add_zero], fun v' => ?_⟩
      simp only [aput, if_true, setE, List.getElem?_cons_zero, List.set_cons_zero]
      exact .cons ⟨rfl, rfl⟩ h2
    · obtain ⟨r1, r2⟩ := findE_map hk (k := k) (i + 1) h2
      refine ⟨fun hn => ?_, fun v hv => ?_⟩
      · simp only [aget, if_neg h] at hn
        simp only [findE, hk.eq, decide_eq_false h]
        exact r1 hn
      · simp only [aget, if_neg h] at hv
        obtain ⟨j, m, s1, s2⟩ := r2 v hv
        refine ⟨j + 1, m, ?_, fun v' => ?_⟩
        · simp only [findE, hk.eq, decide_eq_false h]
          rw [s1]; congr 3; omega
        · have := s2 v'
          simp only [aput, if_neg h]
          have e : setE (j + 1) (ke k) (ve v') ((ke a, ve b, n) :: es) = (ke a, ve b, n) :: setE j (ke k) (ve v') es := by
            simp only [setE, List.getElem?_cons_succ]
            split <;> simp
          rw [e]
          exact .cons ⟨rfl, rfl⟩ this
theorem aput_none : ∀ {M : List (α × β)} {k : α}, aget M k = none → ∀ v, aput M k v = M ++ [(k, v)]
  | [], k, _, v => rfl
  | (a, b) :: M, k, h, v => by
    simp only [aget] at h
    split at h
    · cases h
    · rename_i hn
      simp only [aput, if_neg hn, aput_none h v, List.cons_append]
theorem mturn_frm {w : AW} {b : Nat} {es : List (V × V × Nat)} {ck : Nat} : Frm (fun x => x = b) w (w.turn b (.map es ck)) :=
  ⟨Nat.le_refl _, fun c hc hn => T.get_put_ne hn, fun c hc hn => rfl⟩
theorem MB.put (hk : KeyE t ke) {w : AW} {b : Nat} {M : List (α × β)} (h : MB ke ve w b M) (k : α) (v : β) : ∃ w', w.putV t (.map b) (ke k) (ve v) = some w' ∧ MB ke ve w' b (aput M k v) ∧ Frm (fun x => x = b) w w' ∧ w'.next = w.next := by
  obtain ⟨es, ck, h1, h2⟩ := h.get
  obtain ⟨r1, r2⟩ := findE_map hk (k := k) 0 h2
  simp only [AW.putV, AW.entries, h1, hk.ok]
  cases hg : aget M k with
  | none =>
    refine ⟨w.turn b (.map (es ++ [(ke k, ve v, ck)]) (ck + 1)), by simp only [r1 hg], ⟨h.lt, _, _, T.get_put_same, ?_⟩, mturn_frm, rfl⟩
    rw [aput_none hg]
    exact h2.snoc ⟨rfl, rfl⟩
  | some u =>
    obtain ⟨j, n, s1, s2⟩ := r2 u hg
    refine ⟨w.turn b (.map (setE j (ke k) (ve v) es) ck), ?_, ⟨h.lt, _, _, T.get_put_same, s2 v⟩, mturn_frm, rfl⟩
    simp only [s1, Nat.zero_add]
theorem MB.len {w : AW} {b : Nat} {M : List (α × β)} (h : MB ke ve w b M) : ∃ es ck, w.entries (.map b) = some (some b, es, ck) ∧ es.length = M.length := by
  obtain ⟨es, ck, h1, h2⟩ := h.get
  exact ⟨es, ck, by simp only [AW.entries, h1], h2.len.symm⟩
theorem MB.new (w : AW) : MB ke ve (w.new (.map [] 0)) w.next ([] : List (α × β)) := ⟨Nat.lt_succ_self _, [], 0, T.get_put_same, .nil⟩
end
inductive Bt (S : Nat → Prop) (w : AW) : V → Nat → Nat → List V → Prop
  | nil {esz : Nat} : Bt S w .nilslice esz 0 []
  | blk {b n esz : Nat} {cs : List V} {sh : Share} (hS : S b) (hb : b < w.next) (hx : w.heap.get b = some (.cells cs sh)) (hl : cs.length = n * esz) (he : 0 < esz) (hn : 0 < n) (hs : Shr S w b sh) : Bt S w (.slice b 0 n (.upTo esz)) esz n cs
theorem Bt.buf {S : Nat → Prop} {w : AW} {v : V} {esz n : Nat} {cs : List V} (h : Bt S w v esz n cs) : Buf S w v esz n cs := by
  cases h with
  | nil => exact .nil
  | blk hS hb hx hl he hn hs => exact .blk (r := 0) (rest := []) hS hb (by rw [List.append_nil]; exact hx) hl (by simp) he (by omega) hs
theorem Bt.mono {S S' : Nat → Prop} {w : AW} {v : V} {esz n : Nat} {cs : List V} (h : Bt S w v esz n cs) (hs : ∀ x, S x → S' x) : Bt S' w v esz n cs := by
  cases h with
  | nil => exact .nil
  | blk hS hb hx hl he hn hsh => exact .blk (hs _ hS) hb hx hl he hn (hsh.mono hs)
theorem Bt.frm {S T : Nat → Prop} {w w' : AW} {v : V} {esz n : Nat} {cs : List V} (h : Bt S w v esz n cs) (hf : Frm T w w') (hd : ∀ x, S x → ¬ T x) : Bt S w' v esz n cs := by
  cases h with
  | nil => exact .nil
  | blk hS hb hx hl he hn hsh => exact .blk hS (Nat.lt_of_lt_of_le hb hf.next) ((hf.heap _ hb (hd _ hS)).trans hx) hl he hn (hsh.frm hf hd)
theorem Bt.len {S : Nat → Prop} {w : AW} {v : V} {esz n : Nat} {cs : List V} (h : Bt S w v esz n cs) : cs.length = n * esz := h.buf.len
theorem Bt.rd {S : Nat → Prop} {w : AW} {v : V} {esz n : Nat} {cs : List V} (h : Bt S w v esz n cs) : Rd S w v esz n cs := h.buf.rd
theorem Bt.lenV {S : Nat → Prop} {w : AW} {v : V} {esz n : Nat} {cs : List V} (h : Bt S w v esz n cs) : lenV v = some n := h.buf.lenV
theorem Bt.one {S : Nat → Prop} {w : AW} {v : V} {esz n : Nat} {cs : List V} (h : Bt S w v esz n cs) : v.one = true ∧ v.cells = [v] := by cases h <;> exact ⟨rfl, rfl⟩
theorem Bt.inv {S : Nat → Prop} {w : AW} {v : V} {esz n : Nat} {cs : List V} (h : Bt S w v esz n cs) : (v = .nilslice ∧ n = 0 ∧ cs = []) ∨ ∃ b, v = .slice b 0 n (.upTo esz) ∧ S b ∧ b < w.next := h.buf.inv
theorem Bt.addN {S : Nat → Prop} {w : AW} {v : V} {esz n k bytes : Nat} {cs news : List V} (h : Bt S w v esz n cs) (he : 0 < esz) (hl : news.length = k * esz) (h1 : allOne news = true) (hb : (n + k) * bytes ≤ 70368744177664) (hb' : n + k ≤ 70368744177664) :
    ∃ v' w' S', w.appendV esz bytes v k news = some (v', w') ∧ Bt S' w' v' esz (n + k) (cs ++ news) ∧ Frm S w w' ∧ Grown S S' w w' := by
  cases k with
  | zero =>
    have : news = [] := List.length_eq_zero_iff.1 (by simpa using hl)
    subst this
    refine ⟨v, w, fun x => S x ∧ x < w.next, ?_, ?_, Frm.refl _, fun b hb => ⟨hb.2, .inl hb.1⟩⟩
    · cases h <;> rfl
    · rw [List.append_nil, Nat.add_zero]
      cases h with
      | nil => exact .nil
      | blk hS hbw hx hlen he' hn hs =>
        refine .blk ⟨hS, hbw⟩ hbw hx hlen he' hn ?_
        rcases hs with rfl | rfl | ⟨f, F, rfl, q1, q2, q3⟩
        · exact .inl rfl
        · exact .inr (.inl rfl)
        · exact .inr (.inr ⟨f, F, rfl, ⟨q1, q2⟩, q2, q3⟩)
  | succ k =>
    cases h with
    | nil =>
      refine ⟨.slice w.next 0 (k + 1) (.upTo esz), w.fresh news, fun b => b = w.next, ?_, ?_, Frm.new _ _, ?_⟩
      · simp only [AW.appendV]; rw [if_pos ⟨by simpa using hb, by omega⟩]
      · rw [Nat.zero_add]; exact .blk rfl (Nat.lt_succ_self _) T.get_put_same (by simpa using hl) he (by omega) (.inl rfl)
      · rintro b rfl; exact ⟨Nat.lt_succ_self _, .inr (Nat.le_refl _)⟩
    | @blk b _ _ _ sh hS hbw hx hlen he' hn hs =>
      have happ : w.appendV esz bytes (.slice b 0 n (.upTo esz)) (k + 1) news = w.appendUp esz b 0 n (k + 1) news := if_pos ⟨rfl, hb, hb', h1, he⟩
      rw [happ]
      have hbeq : Nat.beq (0 + n * esz) cs.length = true := by rw [Nat.zero_add, hlen, Nat.beq_refl]
      have fam : ∀ (u : AW) (f : Nat) (F : Fam), w.next ≤ u.next → Frm S w u → u.heap.get b = some (.cells cs (.fam f)) → (S f ∨ w.next ≤ f) → f < u.next → b < u.next → u.fams.get f = some F → F.last = b → F.floor ≤ u.next → u.alive b (.fam f) = true →
          ∃ v' w' S', u.appendFam esz b 0 n (k + 1) news = some (v', w') ∧ Bt S' w' v' esz (n + (k + 1)) (cs ++ news) ∧ Frm S w w' ∧ Grown S S' w w' := by
        intro u f F hle hfu hx hSf hfl hbu hF hlast hflo hal
        refine ⟨.slice u.next 0 (n + (k + 1)) (.upTo esz), u.grow b f F (cs.drop 0 ++ news), fun x => x = u.next ∨ x = f, ?_, ?_, ?_, ?_⟩
        · simp only [AW.appendFam, hx, hal, hF, hbeq]
        · have hg : (u.grow b f F (cs.drop 0 ++ news)).fams.get f = some ⟨F.keep, F.floor, u.next⟩ := by
            simp only [AW.grow, T.get_putk, if_true, hlast, Nat.beq_refl]
          refine .blk (sh := .fam f) (.inl rfl) (Nat.lt_succ_self _) ?_ ?_ he (by omega) (.inr (.inr ⟨f, ⟨F.keep, F.floor, u.next⟩, rfl, .inr rfl, Nat.lt_succ_of_lt hfl, hg, rfl, Nat.le_succ_of_le hflo, ?_⟩))
          · simp only [AW.grow, T.get_putk, if_true, List.drop_zero]
          · rw [List.length_append, hlen, hl, Nat.add_mul n]
          · simp only [AW.alive, hg, Bool.or_eq_true]
            exact .inr (Nat.ble_eq_true_of_le hflo)
        · refine hfu.trans (T := fun x => x = f ∨ u.next ≤ x) ⟨Nat.le_succ _, fun c hc hn => T.get_put_ne (by omega), fun c hc hn => T.get_put_ne fun e => hn (.inl e)⟩ (fun x hx h => h) ?_
          rintro x hx (rfl | h)
          · rcases hSf with h | h
            · exact h
            · omega
          · omega
        · rintro x (rfl | rfl)
          · exact ⟨Nat.lt_succ_self _, .inr hle⟩
          · exact ⟨Nat.lt_succ_of_lt hfl, hSf⟩
      have fnd : sh = .own ∨ sh = .lax → ∃ v' w' S', (w.found b cs).appendFam esz b 0 n (k + 1) news = some (v', w') ∧ Bt S' w' v' esz (n + (k + 1)) (cs ++ news) ∧ Frm S w w' ∧ Grown S S' w w' := by
        intro _
        refine fam (w.found b cs) w.next ⟨b, w.next + 1, b⟩ (Nat.le_succ _) ⟨Nat.le_succ _, fun c hc hn => T.get_put_ne fun e => hn (e ▸ hS), fun c hc hn => T.get_put_ne (by omega)⟩ T.get_put_same (.inr (Nat.le_refl _)) (Nat.lt_succ_self _) (Nat.lt_succ_of_lt hbw) T.get_put_same rfl (Nat.le_refl _) ?_
        simp only [AW.alive, AW.found, T.get_putk, if_true, Nat.beq_refl, Bool.true_or]
      simp only [AW.appendUp, hx, hbeq]
      rcases hs with rfl | rfl | ⟨f, F, rfl, g1, g2, g3, g4, g6, g5⟩
      · exact fnd (.inl rfl)
      · exact fnd (.inr rfl)
      · exact fam w f F (Nat.le_refl _) (Frm.refl _) hx (.inl g1) g2 hbw g3 g4 g6 g5
theorem Bt.push {S : Nat → Prop} {w : AW} {v : V} {esz n bytes : Nat} {cs news : List V} (h : Bt S w v esz n cs) (hS : ∀ b, S b → b < w.next) (he : 0 < esz) (hl : news.length = esz) (h1 : allOne news = true) (hb : (n + 1) * bytes ≤ 70368744177664) (hb' : n + 1 ≤ 70368744177664) :
    ∃ v' w' S', (w.fresh news).appendV esz bytes v 1 news = some (v', w') ∧ Bt S' w' v' esz (n + 1) (cs ++ news) ∧ Frm S w w' ∧ Grown S S' w w' := by
  have hx : Frm (fun _ => False) w (w.fresh news) := Frm.new _ _
  obtain ⟨v', w', S', h2, h3, h4, h5⟩ := (h.frm hx fun _ _ h => h).addN (news := news) (k := 1) (bytes := bytes) he (by omega) h1 hb hb'
  refine ⟨v', w', S', h2, h3, hx.trans h4 (fun _ _ h => h.elim) fun _ _ h => h, fun b hb => ?_⟩
  obtain ⟨q1, q2⟩ := h5 b hb
  exact ⟨q1, q2.imp id fun h => Nat.le_trans hx.next h⟩
end Go.AE
set_option linter.unusedVariables false
namespace Delphi
def okc (i c : Nat) : Bool := (decide (97 ≤ c) && decide (c ≤ 122)) || (decide (i ≠ 0) && ((decide (48 ≤ c) && decide (c ≤ 57)) || decide (c = 95)))
def okAll : Nat → List Nat → Bool
  | _, [] => true
  | i, c :: s => okc i c && okAll (i + 1) s
def wordB (s : List Nat) : Bool := okAll 0 s && (decide (1 ≤ s.length) && decide (s.length ≤ 16))
theorem okAll_snoc : ∀ (s : List Nat) (i c : Nat), okAll i (s ++ [c]) = (okAll i s && okc (i + s.length) c)
  | [], i, c => by simp [okAll]
  | x :: s, i, c => by
    simp only [List.cons_append, okAll, okAll_snoc s (i + 1) c, List.length_cons, Bool.and_assoc]
    congr 3; omega
theorem okAll_bad : ∀ {s : List Nat} {i k c : Nat}, s[k]? = some c → okc (i + k) c = false → okAll i s = false
  | [], i, k, c, h, _ => by simp at h
  | x :: s, i, 0, c, h, hb => by simp at h; subst h; simp only [okAll]; rw [show okc i x = false from hb]; rfl
  | x :: s, i, k + 1, c, h, hb => by
    simp only [okAll]
    rw [okAll_bad (s := s) (i := i + 1) (k := k) (c := c) (by simpa using h) (by rw [← hb]; congr 1; omega), Bool.and_false]
structure Tk where
  k : Int
  s : List Nat
  n : Int
def tkMay (t : Tk) : Bool :=
  if t.k = 3 then decide (t.s = []) && (decide (-2147483648 ≤ t.n) && decide (t.n ≤ 2147483648))
  else if t.k = 2 then decide (t.n = 0) && wordB t.s else false
end Delphi
set_option linter.unusedVariables false
set_option maxRecDepth 10000
set_option linter.unusedSimpArgs false
namespace Go.Proofs.YtegdcbdicpfbpaaGreatDoor.Val
open Go.AE Delphi
variable {tab : Tab}
def WdI (s : List Nat) (fi : Nat) (aw : AW) (q : Nat) (f : Fr) (w : AW) : Prop :=
  ∃ i, f.get 0 = some (.str s) ∧ f.get fi = some (.int .i64 (Int.ofNat i)) ∧ i ≤ s.length ∧ q = s.length - i ∧ okAll 0 (s.take i) = true ∧ w = aw
theorem take_ok {s : List Nat} {i c : Nat} (h : s[i]? = some c) (ho : okAll 0 (s.take i) = true) (hc : okc i c = true) : okAll 0 (s.take (i + 1)) = true := by
  have hl : i < s.length := (List.getElem?_eq_some_iff.1 h).1
  have e : s.take (i + 1) = s.take i ++ [c] := by rw [List.take_add_one, h]; rfl
  rw [e, okAll_snoc, ho, List.length_take, Nat.min_eq_left (by omega), Nat.zero_add, hc]; rfl
theorem word_ok (C : Codes tab) {s : List Nat} {aw : AW} {K : V → AW → Prop} (hn : s.length ≤ 1000000) (hb : ∀ c ∈ s, c < 256) (h : K (.bool (wordB s)) aw) : WF tab n_value_Word [.str s] aw K := by
  refine WF_of C.c_value_Word rfl ?_
  refine WS_run 1000 (by simp only [go_sem, eRun_exit, simprocAttr, k_value_Word]; rfl) ?_
  refine WS_loopJ (fun q f w => WdI s 8 aw q f w ∧ f.get 7 = some (.int .i64 (Int.ofNat s.length))) (fun f w => f.get 0 = some (.str s) ∧ okAll 0 s = true ∧ w = aw) ?_ ?_ s.length ⟨⟨0, (by simp only [go_sem, eRun_exit, simprocAttr] <;> rfl), (by simp only [go_sem, eRun_exit, simprocAttr] <;> rfl), by omega, rfl, by simp [okAll], rfl⟩, (by simp only [go_sem, eRun_exit, simprocAttr] <;> rfl)⟩
  · rintro q f w ⟨⟨i, f0, f8, hi, rfl, hok, rfl⟩, f7⟩ ih exit
    by_cases hlt : i < s.length
    case neg =>
      rw [List.take_of_length_le (by omega)] at hok
      refine WS_runB 1000 (by simp only [go_sem, simprocAttr, k_value_Word_p1, f7, f8, hlt]; rfl) ?_
      exact exit _ _ _ ⟨(by simp only [go_sem, eRun_exit, simprocAttr, f0] <;> rfl), hok, rfl⟩ rfl
    obtain ⟨c, hc⟩ : ∃ c, s[i]? = some c := ⟨_, List.getElem?_eq_getElem hlt⟩
    have hwr : IntKind.wrap .i64 (Int.ofNat i + 1) = Int.ofNat (i + 1) := wrap_succ (by omega)
    have bad : okc i c = false → wordB s = false := fun hk => by
      have := okAll_bad (i := 0) hc (by rw [Nat.zero_add]; exact hk)
      simp only [wordB, this, Bool.false_and]
    by_cases a : 97 ≤ c
    · by_cases b : c ≤ 122
      · refine WS_run 1000 (by simp only [go_sem, eRun_exit, simprocAttr, k_value_Word_p1, k_value_Word_p0, f0, f7, f8, hlt, hc, hwr, a, b]; rfl) ?_
        exact ih (s.length - (i + 1)) _ _ (by omega) ⟨⟨i + 1, (by simp only [go_sem, eRun_exit, simprocAttr, f0] <;> rfl), (by simp only [go_sem, eRun_exit, simprocAttr] <;> rfl), by omega, rfl, take_ok hc hok (by simp [okc, a, b]), rfl⟩, (by simp only [go_sem, eRun_exit, simprocAttr, f7] <;> rfl)⟩
      · by_cases z : i = 0
        · subst z
          refine WS_run 1000 (by simp only [go_sem, eRun_exit, simprocAttr, k_value_Word_p1, k_value_Word_p0, f0, f7, f8, hlt, hc, hwr, a, b]; rfl) ?_
          rw [bad (by simp [okc, a, b])] at h
          refine WS_ret ⟨_, by simp only [go_sem, eRun_exit, simprocAttr, k_value_Word]; rfl, ?_⟩
          exact h
        · by_cases d : c < 48
          · have d9 : ¬ 48 ≤ c := by omega
            have n9 : c ≠ 95 := by omega
            refine WS_run 1000 (by simp only [go_sem, eRun_exit, simprocAttr, k_value_Word_p1, k_value_Word_p0, f0, f7, f8, hlt, hc, hwr, a, b, z, d, d9, n9]; rfl) ?_
            rw [bad (by simp [okc, a, b, z, d, d9, n9])] at h
            refine WS_ret ⟨_, by simp only [go_sem, eRun_exit, simprocAttr, k_value_Word]; rfl, ?_⟩
            exact h
          · have d9 : 48 ≤ c := by omega
            by_cases e : 57 < c
            · have e9 : ¬ c ≤ 57 := by omega
              by_cases n9 : c = 95
              · refine WS_run 1000 (by simp only [go_sem, eRun_exit, simprocAttr, k_value_Word_p1, k_value_Word_p0, f0, f7, f8, hlt, hc, hwr, a, b, z, d, d9, e, e9, n9]; rfl) ?_
                exact ih (s.length - (i + 1)) _ _ (by omega) ⟨⟨i + 1, (by simp only [go_sem, eRun_exit, simprocAttr, f0] <;> rfl), (by simp only [go_sem, eRun_exit, simprocAttr] <;> rfl), by omega, rfl, take_ok hc hok (by simp [okc, a, b, z, d, d9, e, e9, n9]), rfl⟩, (by simp only [go_sem, eRun_exit, simprocAttr, f7] <;> rfl)⟩
              · refine WS_run 1000 (by simp only [go_sem, eRun_exit, simprocAttr, k_value_Word_p1, k_value_Word_p0, f0, f7, f8, hlt, hc, hwr, a, b, z, d, d9, e, e9, n9]; rfl) ?_
                rw [bad (by simp [okc, a, b, z, d, d9, e, e9, n9])] at h
                refine WS_ret ⟨_, by simp only [go_sem, eRun_exit, simprocAttr, k_value_Word]; rfl, ?_⟩
                exact h
            · have e9 : c ≤ 57 := by omega
              refine WS_run 1000 (by simp only [go_sem, eRun_exit, simprocAttr, k_value_Word_p1, k_value_Word_p0, f0, f7, f8, hlt, hc, hwr, a, b, z, d, d9, e, e9]; rfl) ?_
              exact ih (s.length - (i + 1)) _ _ (by omega) ⟨⟨i + 1, (by simp only [go_sem, eRun_exit, simprocAttr, f0] <;> rfl), (by simp only [go_sem, eRun_exit, simprocAttr] <;> rfl), by omega, rfl, take_ok hc hok (by simp [okc, a, b, z, d, d9, e, e9]), rfl⟩, (by simp only [go_sem, eRun_exit, simprocAttr, f7] <;> rfl)⟩
    · by_cases z : i = 0
      · subst z
        refine WS_run 1000 (by simp only [go_sem, eRun_exit, simprocAttr, k_value_Word_p1, k_value_Word_p0, f0, f7, f8, hlt, hc, hwr, a]; rfl) ?_
        rw [bad (by simp [okc, a])] at h
        refine WS_ret ⟨_, by simp only [go_sem, eRun_exit, simprocAttr, k_value_Word]; rfl, ?_⟩
        exact h
      · by_cases d : c < 48
        · have d9 : ¬ 48 ≤ c := by omega
          have n9 : c ≠ 95 := by omega
          refine WS_run 1000 (by simp only [go_sem, eRun_exit, simprocAttr, k_value_Word_p1, k_value_Word_p0, f0, f7, f8, hlt, hc, hwr, a, z, d, d9, n9]; rfl) ?_
          rw [bad (by simp [okc, a, z, d, d9, n9])] at h
          refine WS_ret ⟨_, by simp only [go_sem, eRun_exit, simprocAttr, k_value_Word]; rfl, ?_⟩
          exact h
        · have d9 : 48 ≤ c := by omega
          by_cases e : 57 < c
          · have e9 : ¬ c ≤ 57 := by omega
            by_cases n9 : c = 95
            · refine WS_run 1000 (by simp only [go_sem, eRun_exit, simprocAttr, k_value_Word_p1, k_value_Word_p0, f0, f7, f8, hlt, hc, hwr, a, z, d, d9, e, e9, n9]; rfl) ?_
              exact ih (s.length - (i + 1)) _ _ (by omega) ⟨⟨i + 1, (by simp only [go_sem, eRun_exit, simprocAttr, f0] <;> rfl), (by simp only [go_sem, eRun_exit, simprocAttr] <;> rfl), by omega, rfl, take_ok hc hok (by simp [okc, a, z, d, d9, e, e9, n9]), rfl⟩, (by simp only [go_sem, eRun_exit, simprocAttr, f7] <;> rfl)⟩
            · refine WS_run 1000 (by simp only [go_sem, eRun_exit, simprocAttr, k_value_Word_p1, k_value_Word_p0, f0, f7, f8, hlt, hc, hwr, a, z, d, d9, e, e9, n9]; rfl) ?_
              rw [bad (by simp [okc, a, z, d, d9, e, e9, n9])] at h
              refine WS_ret ⟨_, by simp only [go_sem, eRun_exit, simprocAttr, k_value_Word]; rfl, ?_⟩
              exact h
          · have e9 : c ≤ 57 := by omega
            refine WS_run 1000 (by simp only [go_sem, eRun_exit, simprocAttr, k_value_Word_p1, k_value_Word_p0, f0, f7, f8, hlt, hc, hwr, a, z, d, d9, e, e9]; rfl) ?_
            exact ih (s.length - (i + 1)) _ _ (by omega) ⟨⟨i + 1, (by simp only [go_sem, eRun_exit, simprocAttr, f0] <;> rfl), (by simp only [go_sem, eRun_exit, simprocAttr] <;> rfl), by omega, rfl, take_ok hc hok (by simp [okc, a, z, d, d9, e, e9]), rfl⟩, (by simp only [go_sem, eRun_exit, simprocAttr, f7] <;> rfl)⟩
  · rintro f w ⟨f0, hok, rfl⟩
    cases s with
    | nil =>
      refine WS_run 1000 (by simp only [go_sem, eRun_exit, simprocAttr, f0]; rfl) ?_
      refine WS_ret ⟨_, by simp only [go_sem, eRun_exit, simprocAttr, k_value_Word]; rfl, ?_⟩
      exact h
    | cons x t =>
      refine WS_run 1000 (by simp only [go_sem, eRun_exit, simprocAttr, f0]; rfl) ?_
      refine WS_ret ⟨_, by simp only [go_sem, eRun_exit, simprocAttr, k_value_Word]; rfl, ?_⟩
      rw [show wordB (x :: t) = decide ((x :: t).length ≤ 16) by simp [wordB, hok]] at h
      exact h
end Go.Proofs.YtegdcbdicpfbpaaGreatDoor.Val
set_option linter.unusedVariables false
set_option maxRecDepth 10000
set_option linter.unusedSimpArgs false
namespace Go.Proofs.YtegdcbdicpfbpaaGreatDoor.Val
open Go.AE Delphi
variable {tab : Tab}
end Go.Proofs.YtegdcbdicpfbpaaGreatDoor.Val
set_option linter.unusedVariables false
set_option maxRecDepth 10000
set_option linter.unusedSimpArgs false
namespace Go.Proofs.YtegdcbdicpfbpaaGreatDoor.Val
open Go.AE Delphi
variable {tab : Tab}
def tkC (t : Tk) : List V := [.int .i64 t.k, .str t.s, .int .i64 t.n]
structure TkOk (t : Tk) : Prop where
  len : t.s.length ≤ 1000000
  byt : ∀ c ∈ t.s, c < 256
theorem box1 (aw : AW) (l : List V) : ∃ w, aw.fresh l = w ∧ CB w aw.next l ∧ Frm (fun _ => False) aw w ∧ w.next = aw.next + 1 :=
  ⟨_, rfl, fresh_cb aw l, fresh_frm aw l, rfl⟩
theorem CB.ld {w : AW} {b : Nat} {l : List V} (c : CB w b l) (o n : Nat) (r : List V) (h : takeN n (l.drop o) = some r) : w.load b o n = some r := by rw [c.load]; exact h
theorem may_ok (C : Codes tab) {t : Tk} {aw : AW} {K : V → AW → Prop} (ht : TkOk t) (h : ∀ w, Frm (fun _ => False) aw w → K (.bool (tkMay t)) w) : WF tab n_value_May [.agg (tkC t)] aw K := by
  refine WF_of C.c_value_May rfl ?_
  obtain ⟨k, s, n⟩ := t
  obtain ⟨w1, e1, c1, r1, m1⟩ := box1 aw [.int .i64 k, .str s, .int .i64 n]
  have l0 := CB.ld c1 0 1 _ rfl
  have l1 := CB.ld c1 1 1 _ rfl
  have l2 := CB.ld c1 2 1 _ rfl
  have h := h w1 r1
  by_cases k3 : k = 3
  · subst k3
    cases s with
    | cons x z =>
      refine WS_run 1000 (by simp only [go_sem, eRun_exit, simprocAttr, k_value_May, k_value_May_p2, k_value_May_p1, tkC, e1, l0, l1, l2]; rfl) ?_
      refine WS_ret ⟨_, by simp only [go_sem, eRun_exit, simprocAttr, k_value_May]; rfl, ?_⟩
      exact h
    | nil =>
      have hs : strS BinOp.eql [] [] = some (.bool true) := rfl
      by_cases a : -2147483648 ≤ n
      · by_cases b : n ≤ 2147483648
        · rw [show tkMay ⟨3, [], n⟩ = true by simp [tkMay, a, b]] at h
          refine WS_run 1000 (by simp only [go_sem, eRun_exit, simprocAttr, k_value_May, k_value_May_p2, k_value_May_p1, tkC, e1, l0, l1, l2, hs, a, b]; rfl) ?_
          refine WS_ret ⟨_, by simp only [go_sem, eRun_exit, simprocAttr, k_value_May]; rfl, ?_⟩
          exact h
        · rw [show tkMay ⟨3, [], n⟩ = false by simp [tkMay, a, b]] at h
          refine WS_run 1000 (by simp only [go_sem, eRun_exit, simprocAttr, k_value_May, k_value_May_p2, k_value_May_p1, tkC, e1, l0, l1, l2, hs, a, b]; rfl) ?_
          refine WS_ret ⟨_, by simp only [go_sem, eRun_exit, simprocAttr, k_value_May]; rfl, ?_⟩
          exact h
      · rw [show tkMay ⟨3, [], n⟩ = false by simp [tkMay, a]] at h
        refine WS_run 1000 (by simp only [go_sem, eRun_exit, simprocAttr, k_value_May, k_value_May_p2, k_value_May_p1, tkC, e1, l0, l1, l2, hs, a]; rfl) ?_
        refine WS_ret ⟨_, by simp only [go_sem, eRun_exit, simprocAttr, k_value_May]; rfl, ?_⟩
        exact h
  · by_cases k2 : k = 2
    · subst k2
      by_cases z : n = 0
      · subst z
        rw [show tkMay ⟨2, s, 0⟩ = wordB s by simp [tkMay]] at h
        refine WS_run 1000 (by simp only [go_sem, eRun_exit, simprocAttr, k_value_May, k_value_May_p2, k_value_May_p0, tkC, e1, l0, l1, l2]; rfl) ?_
        refine WS_call (by simp only [go_sem, eRun_exit, simprocAttr]) (by simp only [go_sem, eRun_exit, simprocAttr]; rfl) ?_
        refine word_ok C ht.len ht.byt ?_
        refine WS_run 1000 (by simp only [go_sem, eRun_exit, simprocAttr]; rfl) ?_
        refine WS_ret ⟨_, by simp only [go_sem, eRun_exit, simprocAttr, k_value_May]; rfl, ?_⟩
        exact h
      · rw [show tkMay ⟨2, s, n⟩ = false by simp [tkMay, z]] at h
        have z' : (n == 0) = false := by simpa using z
        refine WS_run 1000 (by simp only [go_sem, eRun_exit, simprocAttr, k_value_May, k_value_May_p2, k_value_May_p0, tkC, e1, l0, l1, l2, z']; rfl) ?_
        refine WS_ret ⟨_, by simp only [go_sem, eRun_exit, simprocAttr, k_value_May]; rfl, ?_⟩
        exact h
    · rw [show tkMay ⟨k, s, n⟩ = false by simp [tkMay, k3, k2]] at h
      have k3' : (k == 3) = false := by simpa using k3
      have k2' : (k == 2) = false := by simpa using k2
      refine WS_run 1000 (by simp only [go_sem, eRun_exit, simprocAttr, k_value_May, k_value_May_p2, tkC, e1, l0, l1, l2, k3', k2']; rfl) ?_
      refine WS_ret ⟨_, by simp only [go_sem, eRun_exit, simprocAttr, k_value_May]; rfl, ?_⟩
      exact h
end Go.Proofs.YtegdcbdicpfbpaaGreatDoor.Val
set_option linter.unusedVariables false
set_option maxRecDepth 10000
set_option linter.unusedSimpArgs false
namespace Go.Proofs.YtegdcbdicpfbpaaGreatDoor.Val
open Go.AE Delphi
variable {tab : Tab}
def tkSame (a b : Tk) : Bool := (a.k == b.k) && (eqL a.s b.s && (a.n == b.n))
theorem box2 (aw : AW) (l l' : List V) : ∃ w, (aw.fresh l).fresh l' = w ∧ CB w aw.next l ∧ CB w (aw.next + 1) l' ∧ Frm (fun _ => False) aw w ∧ w.next = aw.next + 2 := by
  have f1 := fresh_frm (S := fun _ => False) aw l
  have f2 := fresh_frm (S := fun _ => False) (aw.fresh l) l'
  have n1 : (aw.fresh l).next = aw.next + 1 := rfl
  refine ⟨_, rfl, (fresh_cb aw l).frm f2 (fun h => h), ?_, f1.tr f2, rfl⟩
  have := fresh_cb (aw.fresh l) l'
  rwa [n1] at this
theorem rEq_ok (C : Codes tab) {a b : Tk} {aw : AW} {K : V → AW → Prop} (h : ∀ w, Frm (fun _ => False) aw w → K (.bool (tkSame a b)) w) : WF tab n_ref8_Eq [.agg (tkC a), .agg (tkC b)] aw K := by
  refine WF_of C.c_ref8_Eq rfl ?_
  obtain ⟨k, s, n⟩ := a
  obtain ⟨k', s', n'⟩ := b
  obtain ⟨w1, e1, c1, c2, r1, m1⟩ := box2 aw [.int .i64 k, .str s, .int .i64 n] [.int .i64 k', .str s', .int .i64 n']
  have l0 := CB.ld c1 0 1 _ rfl
  have l1 := CB.ld c1 1 1 _ rfl
  have l2 := CB.ld c1 2 1 _ rfl
  have q0 := CB.ld c2 0 1 _ rfl
  have q1 := CB.ld c2 1 1 _ rfl
  have q2 := CB.ld c2 2 1 _ rfl
  have h := h w1 r1
  have nn : ∀ l, (aw.fresh l).next = aw.next + 1 := fun _ => rfl
  cases h1 : (k == k') with
  | false =>
    rw [show tkSame ⟨k, s, n⟩ ⟨k', s', n'⟩ = false by simp only [tkSame, h1, Bool.false_and]] at h
    refine WS_run 1000 (by simp only [go_sem, eRun_exit, simprocAttr, k_ref8_Eq, tkC, nn, e1, l0, l1, l2, q0, q1, q2, h1]; rfl) ?_
    refine WS_ret ⟨_, by simp only [go_sem, eRun_exit, simprocAttr, k_ref8_Eq]; rfl, ?_⟩
    exact h
  | true =>
    cases h2 : eqL s s' with
    | false =>
      rw [show tkSame ⟨k, s, n⟩ ⟨k', s', n'⟩ = false by simp only [tkSame, h1, h2, Bool.false_and, Bool.and_false]] at h
      refine WS_run 1000 (by simp only [go_sem, eRun_exit, simprocAttr, k_ref8_Eq, tkC, nn, e1, l0, l1, l2, q0, q1, q2, h1, strS, h2]; rfl) ?_
      refine WS_ret ⟨_, by simp only [go_sem, eRun_exit, simprocAttr, k_ref8_Eq]; rfl, ?_⟩
      exact h
    | true =>
      rw [show tkSame ⟨k, s, n⟩ ⟨k', s', n'⟩ = (n == n') by simp only [tkSame, h1, h2, Bool.true_and]] at h
      refine WS_run 1000 (by simp only [go_sem, eRun_exit, simprocAttr, k_ref8_Eq, tkC, nn, e1, l0, l1, l2, q0, q1, q2, h1, strS, h2]; rfl) ?_
      refine WS_ret ⟨_, by simp only [go_sem, eRun_exit, simprocAttr, k_ref8_Eq]; rfl, ?_⟩
      exact h
end Go.Proofs.YtegdcbdicpfbpaaGreatDoor.Val
set_option linter.unusedVariables false
set_option maxRecDepth 10000
set_option linter.unusedSimpArgs false
namespace Go.Proofs.YtegdcbdicpfbpaaGreatDoor.Val
open Go.AE Delphi
variable {tab : Tab}
def DecI (n : Int) (aw : AW) (q : Nat) (f : Fr) (w : AW) : Prop :=
  ∃ k s, f.get 0 = some (.int .i64 n) ∧ f.get 3 = some (.str s) ∧ f.get 4 = some (.int .i64 k) ∧ q = k.natAbs ∧ s.length + k.natAbs ≤ n.natAbs ∧ Frm (fun _ => False) aw w ∧
    (if k = 0 then s = decN n.natAbs else decN k.natAbs ++ s = decN n.natAbs)
theorem dig_wrap {d : Nat} (h : d < 10) : IntKind.wrap .u8 (48 + (d : Int)) = Int.ofNat (48 + d) := by
  have : d = 0 ∨ d = 1 ∨ d = 2 ∨ d = 3 ∨ d = 4 ∨ d = 5 ∨ d = 6 ∨ d = 7 ∨ d = 8 ∨ d = 9 := by omega
  rcases this with rfl | rfl | rfl | rfl | rfl | rfl | rfl | rfl | rfl | rfl <;> rfl
theorem dec_ok (C : Codes tab) {n : Int} {aw : AW} {K : V → AW → Prop} (hn : n.natAbs ≤ 2147483648) (h : ∀ w, Frm (fun _ => False) aw w → K (.str (fmtI n)) w) : WF tab n_ref8_dec [.int .i64 n] aw K := by
  refine WF_of C.c_ref8_dec rfl ?_
  by_cases z : n = 0
  · subst z
    refine WS_run 1000 (by simp only [go_sem, eRun_exit, simprocAttr, k_ref8_dec]; rfl) ?_
    refine WS_ret ⟨_, by simp only [go_sem, eRun_exit, simprocAttr, k_ref8_dec]; rfl, ?_⟩
    exact h aw (Frm.refl _)
  have z' : (n == 0) = false := by simpa using z
  refine WS_run 1000 (by simp only [go_sem, eRun_exit, simprocAttr, k_ref8_dec, z']; rfl) ?_
  refine WS_loopJ (DecI n aw) (fun f w => f.get 0 = some (.int .i64 n) ∧ f.get 3 = some (.str (decN n.natAbs)) ∧ (decN n.natAbs).length ≤ n.natAbs ∧ Frm (fun _ => False) aw w) ?_ ?_ n.natAbs ⟨n, [], (by simp only [go_sem, eRun_exit, simprocAttr] <;> rfl), (by simp only [go_sem, eRun_exit, simprocAttr] <;> rfl), (by simp only [go_sem, eRun_exit, simprocAttr] <;> rfl), rfl, by simp, Frm.refl _, by simp [z]⟩
  · rintro q f w ⟨k, s, f0, f3, f4, rfl, hl, hf, hs⟩ ih exit
    by_cases hk : k = 0
    · subst hk
      refine WS_runB 1000 (by simp only [go_sem, simprocAttr, k_ref8_dec_p1, f4]; rfl) ?_
      rw [if_pos rfl] at hs
      exact exit _ _ _ ⟨(by simp only [go_sem, eRun_exit, simprocAttr, f0] <;> rfl), by rw [← hs]; exact (by simp only [go_sem, eRun_exit, simprocAttr, f3] <;> rfl), by rw [← hs]; simpa using hl, hf⟩ rfl
    have hk' : (k == 0) = false := by simpa using hk
    rw [if_neg hk] at hs
    have q0 : (k.tdiv 10).natAbs = k.natAbs / 10 := Int.natAbs_tdiv k 10
    have hq : IntKind.wrap .i64 (k.tdiv 10) = k.tdiv 10 := by
      refine wrap_id ?_ ?_ <;> omega
    have r0 : (k.tmod 10).natAbs = k.natAbs % 10 := Int.natAbs_tmod k 10
    have ml : k.natAbs % 10 < 10 := Nat.mod_lt _ (by omega)
    have hc : ∀ w2 : AW, Frm (fun _ => False) w w2 → ∀ f', f'.get 0 = some (.int .i64 n) → f'.get 3 = some (.str ((48 + k.natAbs % 10) :: s)) → f'.get 4 = some (.int .i64 (k.tdiv 10)) → WS tab (.code (.loop k_ref8_dec_p1) :: .endB 0 :: _) f' w2 _ := fun w2 h2 f' g0 g3 g4 => by
      refine ih (k.natAbs / 10) f' w2 (by omega) ⟨k.tdiv 10, _, g0, g3, g4, q0.symm, by rw [q0, List.length_cons]; omega, hf.tr h2, ?_⟩
      by_cases hs10 : k.natAbs < 10
      · have : k.tdiv 10 = 0 := by omega
        rw [if_pos this, ← hs, decN_small hs10, Nat.mod_eq_of_lt hs10]; rfl
      · have : k.tdiv 10 ≠ 0 := by omega
        rw [if_neg this, q0, ← hs, decN_step hs10]; simp
    have hkn : (k != 0) = true := by simp [bne, hk']
    generalize hdg : k.natAbs % 10 = d at *
    have ff := fresh_frm (S := fun _ => False) w [V.int .u8 (Int.ofNat (48 + d))]
    have hel : (w.fresh [V.int .u8 (Int.ofNat (48 + d))]).elems 1 (.slice w.next 0 1 (.known 1)) = some (1, [V.int .u8 (Int.ofNat (48 + d))]) := elems_fresh (by omega) rfl
    have hby : bytesV [V.int .u8 (Int.ofNat (48 + d))] = some [48 + d] := by
      show (match Nat.blt (48 + d) 256, bytesV [] with | true, some r => some ((48 + d) :: r) | _, _ => none) = _
      rw [show Nat.blt (48 + d) 256 = true from by rw [Nat.blt_eq]; omega]; rfl
    have wA : IntKind.wrap .i64 (48 + Int.ofNat d) = 48 + Int.ofNat d := wrap_id (by show (-9223372036854775808 : Int) ≤ 48 + (d : Int); omega) (by show 48 + (d : Int) ≤ _; omega)
    have wB : IntKind.wrap .u8 (48 + Int.ofNat d) = Int.ofNat (48 + d) := dig_wrap ml
    have hsl : 1 + s.length ≤ 4611686018427387904 := by omega
    by_cases hd : k.tmod 10 < 0
    · have e1 : IntKind.wrap .i64 (0 - k.tmod 10) = Int.ofNat d := by
        rw [wrap_id (by omega) (by omega)]; show _ = (d : Int); omega
      refine WS_run 1000 (by simp only [go_sem, eRun_exit, simprocAttr, k_ref8_dec_p1, k_ref8_dec_p0, f0, f3, f4, hkn, hd, e1, hq, wA, wB, evParts, takeN, over, fillV, V.cells, List.length_cons, List.length_nil, hel, hby, strS, hsl]; rfl) ?_
      exact hc _ ff _ (by simp only [go_sem, eRun_exit, simprocAttr, f0] <;> rfl) (by simp only [go_sem, eRun_exit, simprocAttr] <;> rfl) (by simp only [go_sem, eRun_exit, simprocAttr] <;> rfl)
    · have e1 : k.tmod 10 = Int.ofNat d := by show _ = (d : Int); omega
      have hd2 : ¬ (Int.ofNat d < 0) := by show ¬ ((d : Int) < 0); omega
      refine WS_run 1000 (by simp only [go_sem, eRun_exit, simprocAttr, k_ref8_dec_p1, k_ref8_dec_p0, f0, f3, f4, hkn, hd2, e1, hq, wA, wB, evParts, takeN, over, fillV, V.cells, List.length_cons, List.length_nil, hel, hby, strS, hsl]; rfl) ?_
      exact hc _ ff _ (by simp only [go_sem, eRun_exit, simprocAttr, f0] <;> rfl) (by simp only [go_sem, eRun_exit, simprocAttr] <;> rfl) (by simp only [go_sem, eRun_exit, simprocAttr] <;> rfl)
  · rintro f w ⟨f0, f3, hl, hf⟩
    have h := h w hf
    cases n with
    | ofNat m =>
      have hd : ¬ (Int.ofNat m < 0) := by show ¬ ((m : Int) < 0); omega
      refine WS_run 1000 (by simp only [go_sem, eRun_exit, simprocAttr, f0, f3, hd]; rfl) ?_
      refine WS_ret ⟨_, by simp only [go_sem, eRun_exit, simprocAttr, k_ref8_dec]; rfl, ?_⟩
      exact h
    | negSucc m =>
      have hd : Int.negSucc m < 0 := Int.negSucc_lt_zero m
      have hsl : 1 + (decN (Int.negSucc m).natAbs).length ≤ 4611686018427387904 := by omega
      refine WS_run 1000 (by simp only [go_sem, eRun_exit, simprocAttr, f0, f3, hd, strS, List.length_cons, List.length_nil, hsl]; rfl) ?_
      refine WS_ret ⟨_, by simp only [go_sem, eRun_exit, simprocAttr, k_ref8_dec]; rfl, ?_⟩
      exact h
def Formats (tab : Tab) : Prop := ∀ n aw, -9223372036854775808 ≤ n → n ≤ 9223372036854775807 → CallR tab n_strconv_FormatInt [.int .i64 n, .int .i64 10] aw (.str (fmtI n)) aw
theorem print_ok (C : Codes tab) (F : Formats tab) {t : Tk} (hn : t.n.natAbs ≤ 2147483648) {aw : AW} {K : V → AW → Prop} (h : ∀ w, Frm (fun _ => False) aw w → K (.str (if t.k = 3 then fmtI t.n else t.s)) w) : WF tab n_value_Print [.agg (tkC t)] aw K := by
  refine WF_of C.c_value_Print rfl ?_
  obtain ⟨k, s, n⟩ := t
  obtain ⟨w1, e1, c1, r1, m1⟩ := box1 aw [.int .i64 k, .str s, .int .i64 n]
  have l0 := CB.ld c1 0 1 _ rfl
  have l1 := CB.ld c1 1 1 _ rfl
  have l2 := CB.ld c1 2 1 _ rfl
  have h := h w1 r1
  by_cases h1 : k = 3
  · subst h1
    rw [if_pos rfl] at h
    refine WS_run 1000 (by simp only [go_sem, eRun_exit, simprocAttr, k_value_Print, tkC, e1, l0, l1, l2]; rfl) ?_
    refine WS_call (by simp only [go_sem, eRun_exit, simprocAttr]) (by simp only [go_sem, eRun_exit, simprocAttr]; rfl) ?_
    refine ⟨_, _, F n w1 (by have : n.natAbs ≤ 2147483648 := hn; omega) (by have : n.natAbs ≤ 2147483648 := hn; omega), ?_⟩
    refine WS_run 1000 (by simp only [go_sem, eRun_exit, simprocAttr]; rfl) ?_
    refine WS_ret ⟨_, by simp only [go_sem, eRun_exit, simprocAttr, k_value_Print]; rfl, ?_⟩
    exact h
  · have h1' : (k == 3) = false := by simpa using h1
    rw [if_neg h1] at h
    refine WS_run 1000 (by simp only [go_sem, eRun_exit, simprocAttr, k_value_Print, tkC, e1, l0, l1, l2, h1']; rfl) ?_
    refine WS_ret ⟨_, by simp only [go_sem, eRun_exit, simprocAttr, k_value_Print]; rfl, ?_⟩
    exact h
theorem rPrint_ok (C : Codes tab) {t : Tk} (hn : t.n.natAbs ≤ 2147483648) {aw : AW} {K : V → AW → Prop} (h : ∀ w, Frm (fun _ => False) aw w → K (.str (if t.k = 3 then fmtI t.n else t.s)) w) : WF tab n_ref8_Print [.agg (tkC t)] aw K := by
  refine WF_of C.c_ref8_Print rfl ?_
  obtain ⟨k, s, n⟩ := t
  obtain ⟨w1, e1, c1, r1, m1⟩ := box1 aw [.int .i64 k, .str s, .int .i64 n]
  have l0 := CB.ld c1 0 1 _ rfl
  have l1 := CB.ld c1 1 1 _ rfl
  have l2 := CB.ld c1 2 1 _ rfl
  by_cases h1 : k = 3
  · subst h1
    refine WS_run 1000 (by simp only [go_sem, eRun_exit, simprocAttr, k_ref8_Print, tkC, e1, l0, l1, l2]; rfl) ?_
    refine WS_call (by simp only [go_sem, eRun_exit, simprocAttr]) (by simp only [go_sem, eRun_exit, simprocAttr]; rfl) ?_
    refine dec_ok C hn fun w2 r2 => ?_
    have h := h w2 (r1.tr r2)
    rw [if_pos rfl] at h
    refine WS_run 1000 (by simp only [go_sem, eRun_exit, simprocAttr]; rfl) ?_
    refine WS_ret ⟨_, by simp only [go_sem, eRun_exit, simprocAttr, k_ref8_Print]; rfl, ?_⟩
    exact h
  · have h := h w1 r1
    have h1' : (k == 3) = false := by simpa using h1
    rw [if_neg h1] at h
    refine WS_run 1000 (by simp only [go_sem, eRun_exit, simprocAttr, k_ref8_Print, tkC, e1, l0, l1, l2, h1']; rfl) ?_
    refine WS_ret ⟨_, by simp only [go_sem, eRun_exit, simprocAttr, k_ref8_Print]; rfl, ?_⟩
    exact h
end Go.Proofs.YtegdcbdicpfbpaaGreatDoor.Val
set_option linter.unusedVariables false
set_option maxRecDepth 10000
set_option linter.unusedSimpArgs false
namespace Go.Proofs.YtegdcbdicpfbpaaGreatDoor
open Go.AE Delphi Val
variable {tab : Tab}
structure PgS (Tw : Nat → Prop) (w : AW) (bp : Nat) (ws : List Wd) (v : V) (k : Nat) (wh : Bool) (e : Nat) : Prop where
  cb : CB w bp [v, .bool wh, .int .i64 (Int.ofNat e)]
  kle : k ≤ ws.length
  rd : (ws = [] ∧ v = .nilslice) ∨ ∃ b, v = .slice b (k * 3) (ws.length - k) (.upTo 3) ∧ Rd Tw w (.slice b 0 ws.length (.upTo 3)) 3 ws.length (wdsCells ws)
  no : ¬ Tw bp
  len : ws.length ≤ 4000
theorem PgS.frm {Tw S : Nat → Prop} {w w' : AW} {bp : Nat} {ws : List Wd} {v : V} {k e : Nat} {wh : Bool} (h : PgS Tw w bp ws v k wh e) (hf : Frm S w w') (hn : ¬ S bp) (hd : ∀ x, Tw x → ¬ S x) : PgS Tw w' bp ws v k wh e := by
  refine ⟨h.cb.frm hf hn, h.kle, ?_, h.no, h.len⟩
  rcases h.rd with h1 | ⟨b, h1, h2⟩
  · exact .inl h1
  · exact .inr ⟨b, h1, h2.frm hf hd⟩
theorem PgS.frm0 {Tw : Nat → Prop} {w w' : AW} {bp : Nat} {ws : List Wd} {v : V} {k e : Nat} {wh : Bool} (h : PgS Tw w bp ws v k wh e) (hf : Frm (fun _ => False) w w') : PgS Tw w' bp ws v k wh e := h.frm hf (fun h => h) fun _ _ h => h
theorem PgS.inv {Tw : Nat → Prop} {w : AW} {bp : Nat} {ws : List Wd} {v : V} {k e : Nat} {wh : Bool} (h : PgS Tw w bp ws v k wh e) : lenV v = some (ws.length - k) ∧ v.one = true ∧ v.cells = [v] ∧ ((ws = [] ∧ v = .nilslice) ∨ ∃ b, v = .slice b (k * 3) (ws.length - k) (.upTo 3) ∧
    ∀ i x, ws[k + i]? = some x → w.load b (k * 3 + i * 3) 3 = some (wdCells x)) := by
  rcases h.rd with ⟨rfl, rfl⟩ | ⟨b, rfl, h2⟩
  · exact ⟨by simp [lenV], rfl, rfl, .inl ⟨rfl, rfl⟩⟩
  · refine ⟨rfl, rfl, rfl, .inr ⟨b, rfl, fun i x hx => ?_⟩⟩
    have hw : Wds Tw w bp (.slice b 0 ws.length (.upTo 3)) ws := ⟨h2, h.no, h.len⟩
    rcases hw.at with ⟨h1, _⟩ | ⟨b', o, c, h1, _, _, hat⟩
    · cases h1
    · cases h1
      have := (hat (k + i) x hx).2.2
      rw [Nat.zero_add, Nat.add_mul] at this
      exact this
theorem PgS.l0 {Tw : Nat → Prop} {w : AW} {bp : Nat} {ws : List Wd} {v : V} {k e : Nat} {wh : Bool} (h : PgS Tw w bp ws v k wh e) : w.load bp 0 1 = some [v] := CB.ld h.cb 0 1 _ rfl
theorem PgS.l1 {Tw : Nat → Prop} {w : AW} {bp : Nat} {ws : List Wd} {v : V} {k e : Nat} {wh : Bool} (h : PgS Tw w bp ws v k wh e) : w.load bp 1 1 = some [.bool wh] := CB.ld h.cb 1 1 _ rfl
theorem PgS.l2 {Tw : Nat → Prop} {w : AW} {bp : Nat} {ws : List Wd} {v : V} {k e : Nat} {wh : Bool} (h : PgS Tw w bp ws v k wh e) : w.load bp 2 1 = some [.int .i64 (Int.ofNat e)] := CB.ld h.cb 2 1 _ rfl
theorem PgS.err {Tw : Nat → Prop} {w : AW} {bp : Nat} {ws : List Wd} {v : V} {k e : Nat} {wh : Bool} (h : PgS Tw w bp ws v k wh e) (e' : Nat) : ∃ w', w.store bp 2 [.int .i64 (Int.ofNat e')] = some w' ∧ PgS Tw w' bp ws v k wh e' ∧ Frm (fun x => x = bp) w w' ∧ w'.next = w.next := by
  have hf := put_frm (w := w) (b := bp) (l := [v, V.bool wh, .int .i64 (Int.ofNat e')])
  refine ⟨w.put bp [v, .bool wh, .int .i64 (Int.ofNat e')], h.cb.set (i := 2) (v := .int .i64 (Int.ofNat e')) (by simp) rfl, ⟨put_cb h.cb.lt, h.kle, ?_, h.no, h.len⟩, hf, rfl⟩
  rcases h.rd with h1 | ⟨b, h1, h2⟩
  · exact .inl h1
  · exact .inr ⟨b, h1, h2.frm hf fun x hx he => h.no (he ▸ hx)⟩
theorem PgS.take {Tw : Nat → Prop} {w : AW} {bp : Nat} {ws : List Wd} {v : V} {k e : Nat} {wh : Bool} (h : PgS Tw w bp ws v k wh e) (hk : k < ws.length) : ∃ b v' w', v = .slice b (k * 3) (ws.length - k) (.upTo 3) ∧ w.sliceW 3 b (k * 3) (ws.length - k) (.upTo 3) (some 1) none none = some v' ∧ w.store bp 0 [v'] = some w' ∧ PgS Tw w' bp ws v' (k + 1) wh e ∧ Frm (fun x => x = bp) w w' ∧ v'.cells = [v'] := by
  rcases h.rd with ⟨rfl, _⟩ | ⟨b, h1, h2⟩
  · simp at hk
  have hf := put_frm (w := w) (b := bp) (l := [V.slice b ((k + 1) * 3) (ws.length - (k + 1)) (.upTo 3), V.bool wh, .int .i64 (Int.ofNat e)])
  refine ⟨b, .slice b ((k + 1) * 3) (ws.length - (k + 1)) (.upTo 3), w.put bp [.slice b ((k + 1) * 3) (ws.length - (k + 1)) (.upTo 3), .bool wh, .int .i64 (Int.ofNat e)], h1, ?_, h.cb.set (i := 0) (by simp) rfl, ⟨put_cb h.cb.lt, hk, .inr ⟨b, rfl, h2.frm hf fun x hx he => h.no (he ▸ hx)⟩, h.no, h.len⟩, hf, rfl⟩
  have e1 : sliceV 3 b (k * 3) (ws.length - k) (.upTo 3) (some 1) none none = some (.slice b ((k + 1) * 3) (ws.length - (k + 1)) (.upTo 3)) := by
    simp only [sliceV, Option.getD_none, Option.getD_some]
    rw [if_pos ⟨Nat.le_refl _, by omega, trivial⟩]
    congr 2
    omega
  simp only [AW.sliceW, e1]
theorem pfail_ok (C : Codes tab) {Tw : Nat → Prop} {bp k e x : Nat} {wh : Bool} {v : V} {ws : List Wd} {aw : AW} {K : V → AW → Prop} (hp : PgS Tw aw bp ws v k wh e)
    (h : ∀ w, PgS Tw w bp ws v k wh (rBad e x) → Frm (fun b => b = bp) aw w → K (.tuple []) w) : WF tab n_syntax_parser_fail [.ptr bp 0, .int .i64 (Int.ofNat x)] aw K := by
  refine WF_of C.c_syntax_parser_fail rfl ?_
  have l2 := hp.l2
  by_cases he : e = 0
  · subst he
    obtain ⟨w1, s1, p1, f1, _⟩ := hp.err x
    refine WS_run 1000 (by simp only [go_sem, eRun_exit, simprocAttr, k_syntax_parser_fail_p0, k_syntax_parser_fail, l2, s1]; rfl) ?_
    refine WS_nil ⟨_, by simp only [go_sem, eRun_exit, simprocAttr, k_syntax_parser_fail]; rfl, ?_⟩
    exact h _ p1 f1
  · have : rBad e x = e := if_neg he
    rw [this] at h
    refine WS_run 1000 (by simp only [go_sem, eRun_exit, simprocAttr, k_syntax_parser_fail_p0, k_syntax_parser_fail, l2, he]; rfl) ?_
    refine WS_nil ⟨_, by simp only [go_sem, eRun_exit, simprocAttr, k_syntax_parser_fail]; rfl, ?_⟩
    exact h _ hp (Frm.refl _)
def peekW (ws : List Wd) (k e : Nat) : Wd := (rNext ws k e).getD ⟨0, [], 0⟩
theorem peek_ok (C : Codes tab) {Tw : Nat → Prop} {bp k e j : Nat} {wh : Bool} {v : V} {ws : List Wd} {aw : AW} {K : V → AW → Prop} (hp : PgS Tw aw bp ws v k wh e)
    (h : ∀ w, Frm (fun _ => False) aw w → K (.agg (wdCells (peekW ws (k + j) e))) w) : WF tab n_syntax_parser_peek [.ptr bp 0, .int .i64 (Int.ofNat j)] aw K := by
  refine WF_of C.c_syntax_parser_peek rfl ?_
  obtain ⟨w1, e1, c1, r1, m1⟩ := box1 aw [.int .i64 0, .str [], .int .i64 0]
  have hp1 := hp.frm0 r1
  obtain ⟨hlv, ho, hc, hi⟩ := hp1.inv
  have l2 := hp1.l2
  have l0 := hp1.l0
  have fin : ∀ x : Wd, ∃ w2, w1.store aw.next 0 (wdCells x) = some w2 ∧ w2.load aw.next 0 3 = some (wdCells x) ∧ Frm (fun _ => False) aw w2 := fun x =>
    ⟨_, c1.setAll (vs := wdCells x) rfl rfl, (put_cb (l := wdCells x) c1.lt).all (n := 3) rfl, r1.trans put_frm (fun _ _ h => h) (by rintro y hy rfl; omega)⟩
  obtain ⟨w2, s2, k2, f2⟩ := fin ⟨0, [], 0⟩
  have s2 : w1.store aw.next 0 [.int .i64 0, .str [], .int .i64 0] = some w2 := s2
  have k2 : w2.load aw.next 0 3 = some [.int .i64 0, .str [], .int .i64 0] := k2
  by_cases he : e = 0
  case neg =>
    have hw : peekW ws (k + j) e = ⟨0, [], 0⟩ := by simp [peekW, rNext, he]
    rw [hw] at h
    refine WS_run 1000 (by simp only [go_sem, eRun_exit, simprocAttr, k_syntax_parser_peek_p0, k_syntax_parser_peek_p1, k_syntax_parser_peek_p2, k_syntax_parser_peek, e1, l2, he, evParts, fillV, over, List.length_cons, List.length_nil, s2]; rfl) ?_
    refine WS_ret ⟨_, by simp only [go_sem, eRun_exit, simprocAttr, k_syntax_parser_peek, k2]; rfl, ?_⟩
    exact h w2 f2
  subst he
  by_cases hj : ws.length - k ≤ j
  · have hw : peekW ws (k + j) 0 = ⟨0, [], 0⟩ := by simp only [peekW, rNext, if_true]; rw [List.getElem?_eq_none (by omega)]; rfl
    rw [hw] at h
    refine WS_run 1000 (by simp only [go_sem, eRun_exit, simprocAttr, k_syntax_parser_peek_p0, k_syntax_parser_peek_p1, k_syntax_parser_peek_p2, k_syntax_parser_peek, e1, l2, l0, hlv, hj, evParts, fillV, over, List.length_cons, List.length_nil, s2]; rfl) ?_
    refine WS_ret ⟨_, by simp only [go_sem, eRun_exit, simprocAttr, k_syntax_parser_peek, k2]; rfl, ?_⟩
    exact h w2 f2
  have hlt : k + j < ws.length := by omega
  obtain ⟨x, hx⟩ : ∃ x, ws[k + j]? = some x := ⟨_, List.getElem?_eq_getElem hlt⟩
  have hw : peekW ws (k + j) 0 = x := by simp only [peekW, rNext, if_true]; rw [hx]; rfl
  rw [hw] at h
  rcases hi with ⟨rfl, _⟩ | ⟨b, rfl, hat⟩
  · simp at hlt
  obtain ⟨w3, s3, k3, f3⟩ := fin x
  have a3 := hat j x hx
  have hj' : j < ws.length - k := by omega
  refine WS_run 1000 (by simp only [go_sem, eRun_exit, simprocAttr, k_syntax_parser_peek_p0, k_syntax_parser_peek_p1, k_syntax_parser_peek_p2, k_syntax_parser_peek, e1, l2, l0, hj, hj', a3, wdCells_len, s3]; rfl) ?_
  refine WS_ret ⟨_, by simp only [go_sem, eRun_exit, simprocAttr, k_syntax_parser_peek, k3]; rfl, ?_⟩
  exact h w3 f3
def pSign (ws : List Wd) (k e : Nat) (s : List Nat) : Bool := decide (e = 0) && rSign ws k s
theorem pSign_0 {ws : List Wd} {k : Nat} {s : List Nat} : pSign ws k 0 s = rSign ws k s := rfl
theorem eqLd (s g : List Nat) : eqL s g = decide (s = g) := by
  by_cases hh : s = g
  · rw [decide_eq_true hh]; exact eqL_iff.2 hh
  · rw [decide_eq_false hh]
    cases hc : eqL s g with
    | false => rfl
    | true => exact absurd (eqL_iff.1 hc) hh
theorem peekW_sign {ws : List Wd} {k e : Nat} {s : List Nat} : pSign ws k e s = (decide ((peekW ws k e).kind = 4) && decide ((peekW ws k e).text = s)) := by
  unfold pSign peekW rNext rSign
  by_cases he : e = 0
  · subst he
    simp only [decide_true, Bool.true_and, if_true]
    cases ws[k]? with
    | none => simp
    | some x => rfl
  · simp [he]
theorem is_ok (C : Codes tab) {Tw : Nat → Prop} {bp k e : Nat} {wh : Bool} {v : V} {ws : List Wd} {s : List Nat} {aw : AW} {K : V → AW → Prop} (hp : PgS Tw aw bp ws v k wh e)
    (h : ∀ w, Frm (fun _ => False) aw w → K (.bool (pSign ws k e s)) w) : WF tab n_syntax_parser_is [.ptr bp 0, .str s] aw K := by
  refine WF_of C.c_syntax_parser_is rfl ?_
  rw [peekW_sign] at h
  refine WS_run 1000 (by simp only [go_sem, eRun_exit, simprocAttr, k_syntax_parser_is_p0, k_syntax_parser_is_p1, k_syntax_parser_is]; rfl) ?_
  refine WS_call (by simp only [go_sem, eRun_exit, simprocAttr]) (by simp only [go_sem, eRun_exit, simprocAttr]; rfl) ?_
  refine peek_ok C (j := 0) hp fun w g => ?_
  rw [Nat.add_zero]
  generalize peekW ws k e = x at *
  obtain ⟨w2, s2, c2, r2, n2⟩ := boxed w (zs := [V.int .i64 0, V.str [], V.int .i64 0]) (vs := wdCells x) rfl rfl
  have a0 := CB.ld c2 0 1 _ rfl
  have a1 := CB.ld c2 1 1 _ rfl
  have f2 := g.tr r2
  by_cases h4 : x.kind = 4
  · rw [decide_eq_true h4, Bool.true_and, ← eqLd] at h
    refine WS_run 1000 (by simp only [go_sem, eRun_exit, simprocAttr, s2, wdCells_len, a0, a1, h4, strS]; rfl) ?_
    refine WS_ret ⟨_, by simp only [go_sem, eRun_exit, simprocAttr, k_syntax_parser_is]; rfl, ?_⟩
    exact h w2 f2
  · rw [decide_eq_false h4, Bool.false_and] at h
    refine WS_run 1000 (by simp only [go_sem, eRun_exit, simprocAttr, s2, wdCells_len, a0, a1, h4]; rfl) ?_
    refine WS_ret ⟨_, by simp only [go_sem, eRun_exit, simprocAttr, k_syntax_parser_is]; rfl, ?_⟩
    exact h w2 f2
theorem pSign_lt {ws : List Wd} {k e : Nat} {s : List Nat} (h : pSign ws k e s = true) : k < ws.length ∧ e = 0 ∧ rSign ws k s = true := by
  unfold pSign at h
  simp only [Bool.and_eq_true, decide_eq_true_eq] at h
  exact ⟨rSign_lt h.2, h.1, h.2⟩
theorem ptake_ok (C : Codes tab) {Tw : Nat → Prop} {bp k e : Nat} {wh : Bool} {v : V} {ws : List Wd} {s : List Nat} {aw : AW} {K : V → AW → Prop} (hp : PgS Tw aw bp ws v k wh e) (hT : ∀ x, Tw x → x < aw.next)
    (h : ∀ w v', PgS Tw w bp ws v' (if pSign ws k e s = true then k + 1 else k) wh e → Frm (fun b => b = bp) aw w → K (.bool (pSign ws k e s)) w) : WF tab n_syntax_parser_take [.ptr bp 0, .str s] aw K := by
  refine WF_of C.c_syntax_parser_take rfl ?_
  refine WS_run 1000 (by simp only [go_sem, eRun_exit, simprocAttr, k_syntax_parser_take_p0, k_syntax_parser_take_p1, k_syntax_parser_take]; rfl) ?_
  refine WS_call (by simp only [go_sem, eRun_exit, simprocAttr]) (by simp only [go_sem, eRun_exit, simprocAttr]; rfl) ?_
  refine is_ok C hp fun w g => ?_
  have hp1 := hp.frm0 g
  cases hs : pSign ws k e s with
  | false =>
    rw [hs] at h
    refine WS_run 1000 (by simp only [go_sem, eRun_exit, simprocAttr]; rfl) ?_
    refine WS_ret ⟨_, by simp only [go_sem, eRun_exit, simprocAttr, k_syntax_parser_take]; rfl, ?_⟩
    exact h w v hp1 g.no
  | true =>
    rw [hs] at h
    obtain ⟨b, v', w', rfl, q1, q2, q3, q4, q5⟩ := hp1.take (pSign_lt hs).1
    have l0 := hp1.l0
    refine WS_run 1000 (by simp only [go_sem, eRun_exit, simprocAttr, l0, q1, q2, q5, List.length_cons, List.length_nil]; rfl) ?_
    refine WS_ret ⟨_, by simp only [go_sem, eRun_exit, simprocAttr, k_syntax_parser_take]; rfl, ?_⟩
    exact h w' v' q3 (g.no.tr q4)
theorem must_ok (C : Codes tab) {Tw : Nat → Prop} {bp k e : Nat} {wh : Bool} {v : V} {ws : List Wd} {s : List Nat} {aw : AW} {K : V → AW → Prop} (hp : PgS Tw aw bp ws v k wh e) (hT : ∀ x, Tw x → x < aw.next)
    (h : ∀ w v', PgS Tw w bp ws v' (rEat ws s k e).1 wh (rEat ws s k e).2 → Frm (fun b => b = bp) aw w → K (.tuple []) w) : WF tab n_syntax_parser_must [.ptr bp 0, .str s] aw K := by
  refine WF_of C.c_syntax_parser_must rfl ?_
  refine WS_run 1000 (by simp only [go_sem, eRun_exit, simprocAttr, k_syntax_parser_must_p0, k_syntax_parser_must]; rfl) ?_
  refine WS_call (by simp only [go_sem, eRun_exit, simprocAttr]) (by simp only [go_sem, eRun_exit, simprocAttr]; rfl) ?_
  refine ptake_ok C hp hT fun w v' q1 q2 => ?_
  cases hs : pSign ws k e s with
  | false =>
    rw [hs, if_neg (by simp)] at q1
    refine WS_run 1000 (by simp only [go_sem, eRun_exit, simprocAttr]; rfl) ?_
    refine WS_call (by simp only [go_sem, eRun_exit, simprocAttr]) (by simp only [go_sem, eRun_exit, simprocAttr]; rfl) ?_
    refine pfail_ok C (x := 4) q1 fun w2 u1 u2 => ?_
    refine WS_run 1000 (by simp only [go_sem, eRun_exit, simprocAttr]; rfl) ?_
    refine WS_nil ⟨_, by simp only [go_sem, eRun_exit, simprocAttr, k_syntax_parser_must]; rfl, ?_⟩
    have he : rEat ws s k e = (k, rBad e 4) := by
      unfold rEat rBad
      by_cases he : e = 0
      · subst he
        rw [pSign_0] at hs
        simp [hs]
      · simp [he]
    rw [he] at h
    exact h w2 v' u1 (q2.tr u2)
  | true =>
    rw [hs, if_pos rfl] at q1
    obtain ⟨h1, rfl, h3⟩ := pSign_lt hs
    have he : rEat ws s k 0 = (k + 1, 0) := by simp [rEat, h3]
    rw [he] at h
    refine WS_run 1000 (by simp only [go_sem, eRun_exit, simprocAttr]; rfl) ?_
    refine WS_nil ⟨_, by simp only [go_sem, eRun_exit, simprocAttr, k_syntax_parser_must]; rfl, ?_⟩
    exact h w v' q1 q2
def nextK (ws : List Wd) (k e : Nat) : Nat := if (rNext ws k e).isSome then k + 1 else k
def nextE (ws : List Wd) (k e : Nat) : Nat := if (rNext ws k e).isSome then e else rBad e 4
theorem next_ok (C : Codes tab) {Tw : Nat → Prop} {bp k e : Nat} {wh : Bool} {v : V} {ws : List Wd} {aw : AW} {K : V → AW → Prop} (hp : PgS Tw aw bp ws v k wh e) (hT : ∀ x, Tw x → x < aw.next) (hok : ∀ x ∈ ws, WOk x)
    (h : ∀ w v', PgS Tw w bp ws v' (nextK ws k e) wh (nextE ws k e) → Frm (fun b => b = bp) aw w → K (.agg (wdCells (peekW ws k e))) w) : WF tab n_syntax_parser_next [.ptr bp 0] aw K := by
  refine WF_of C.c_syntax_parser_next rfl ?_
  obtain ⟨w1, e1, c1, r1, m1⟩ := box1 aw [.int .i64 0, .str [], .int .i64 0]
  have hp1 := hp.frm0 r1
  have hbl := hp.cb.lt
  have hnb : ¬ aw.next = bp := by omega
  refine WS_run 1000 (by simp only [go_sem, eRun_exit, simprocAttr, k_syntax_parser_next_p0, k_syntax_parser_next_p1, k_syntax_parser_next_p2, k_syntax_parser_next, e1]; rfl) ?_
  refine WS_call (by simp only [go_sem, eRun_exit, simprocAttr]) (by simp only [go_sem, eRun_exit, simprocAttr]; rfl) ?_
  refine peek_ok C (j := 0) hp1 fun w2 g => ?_
  rw [Nat.add_zero]
  have hp2 := hp1.frm0 g
  have c2 := c1.frm g fun h => h
  obtain ⟨w3, s3, c3, r3, n3⟩ := boxed w2 (zs := [V.int .i64 0, V.str [], V.int .i64 0]) (vs := wdCells (peekW ws k e)) rfl rfl
  have hp3 := hp2.frm0 r3
  have c23 := c2.frm r3 fun h => h
  have a0 := CB.ld c3 0 1 _ rfl
  have n2 := g.next
  have hn2 : ¬ w2.next = bp := by omega
  have f3 := (r1.tr g).tr r3
  have fin : ∀ w4, Frm (fun b => b = bp) w3 w4 → ∃ w5, w4.load w2.next 0 3 = some (wdCells (peekW ws k e)) ∧ w4.store aw.next 0 (wdCells (peekW ws k e)) = some w5 ∧ w5.load aw.next 0 3 = some (wdCells (peekW ws k e)) ∧ Frm (fun b => b = bp) aw w5 ∧ Frm (fun b => b = aw.next) w4 w5 := by
    intro w4 g4
    have c4 := c23.frm g4 hnb
    refine ⟨_, (c3.frm g4 hn2).all rfl, c4.setAll (vs := wdCells (peekW ws k e)) rfl rfl, (put_cb (l := wdCells (peekW ws k e)) c4.lt).all (n := 3) rfl, ?_, put_frm⟩
    exact (f3.no.tr g4).out (Nat.le_refl _) rfl
  cases hx : rNext ws k e with
  | none =>
    have hw : peekW ws k e = ⟨0, [], 0⟩ := by simp only [peekW, hx]; rfl
    have hk0 : (peekW ws k e).kind = 0 := by rw [hw]
    simp only [nextK, nextE, hx] at h
    have h : ∀ w v', PgS Tw w bp ws v' k wh (rBad e 4) → Frm (fun b => b = bp) aw w → K (.agg (wdCells (peekW ws k e))) w := h
    refine WS_run 1000 (by simp only [go_sem, eRun_exit, simprocAttr, s3, wdCells_len, a0, hk0, k_syntax_parser_next_p0, k_syntax_parser_next_p1, k_syntax_parser_next_p2, k_syntax_parser_next]; rfl) ?_
    refine WS_call (by simp only [go_sem, eRun_exit, simprocAttr]) (by simp only [go_sem, eRun_exit, simprocAttr]; rfl) ?_
    refine pfail_ok C (x := 4) hp3 fun w4 u1 u2 => ?_
    obtain ⟨w5, q1, q2, q3, q4, q5⟩ := fin w4 u2
    refine WS_run 1000 (by simp only [go_sem, eRun_exit, simprocAttr, q1, q2]; rfl) ?_
    refine WS_ret ⟨_, by simp only [go_sem, eRun_exit, simprocAttr, k_syntax_parser_next, q3]; rfl, ?_⟩
    exact h w5 v (u1.frm q5 (fun h => hnb h.symm) fun x hx he => by have := hT x hx; omega) q4
  | some x =>
    obtain ⟨hk, rfl, hgx⟩ := rNext_lt hx
    have hw : peekW ws k 0 = x := by simp only [peekW, hx]; rfl
    obtain ⟨x1, x2, x3, x4, x5⟩ := hok x (List.mem_of_getElem? hgx)
    have hk0 : ¬ (peekW ws k 0).kind = 0 := by rw [hw]; omega
    simp only [nextK, nextE, hx] at h
    have h : ∀ w v', PgS Tw w bp ws v' (k + 1) wh 0 → Frm (fun b => b = bp) aw w → K (.agg (wdCells (peekW ws k 0))) w := h
    obtain ⟨b, v', w4, rfl, p1, p2, p3, p4, p5⟩ := hp3.take hk
    have l0 := hp3.l0
    obtain ⟨w5, q1, q2, q3, q4, q5⟩ := fin w4 p4
    refine WS_run 1000 (by simp only [go_sem, eRun_exit, simprocAttr, s3, wdCells_len, a0, hk0, l0, p1, p2, p5, q1, q2, List.length_cons, List.length_nil]; rfl) ?_
    refine WS_ret ⟨_, by simp only [go_sem, eRun_exit, simprocAttr, k_syntax_parser_next, q3]; rfl, ?_⟩
    exact h w5 v' (p3.frm q5 (fun h => hnb h.symm) fun x hx he => by have := hT x hx; omega) q4
theorem end_ok (C : Codes tab) {Tw : Nat → Prop} {bp k e : Nat} {wh : Bool} {v : V} {ws : List Wd} {aw : AW} {K : V → AW → Prop} (hp : PgS Tw aw bp ws v k wh e)
    (h : K (.bool (decide (k = ws.length) && wh)) aw) : WF tab n_syntax_parser_end [.ptr bp 0] aw K := by
  refine WF_of C.c_syntax_parser_end rfl ?_
  obtain ⟨hlv, ho, hc, hi⟩ := hp.inv
  have l0 := hp.l0
  have l1 := hp.l1
  have hk := hp.kle
  by_cases hz : ws.length - k = 0
  · have he : k = ws.length := by omega
    rw [decide_eq_true he, Bool.true_and] at h
    refine WS_run 1000 (by simp only [go_sem, eRun_exit, simprocAttr, k_syntax_parser_end_p0, k_syntax_parser_end, l0, l1, hlv, hz]; rfl) ?_
    refine WS_ret ⟨_, by simp only [go_sem, eRun_exit, simprocAttr, k_syntax_parser_end]; rfl, ?_⟩
    exact h
  · have he : ¬ k = ws.length := by omega
    rw [decide_eq_false he, Bool.false_and] at h
    refine WS_run 1000 (by simp only [go_sem, eRun_exit, simprocAttr, k_syntax_parser_end_p0, k_syntax_parser_end, l0, l1, hlv, hz]; rfl) ?_
    refine WS_ret ⟨_, by simp only [go_sem, eRun_exit, simprocAttr, k_syntax_parser_end]; rfl, ?_⟩
    exact h
end Go.Proofs.YtegdcbdicpfbpaaGreatDoor
