/- A part of the proof: PPar9, PChk2, PChk3, PChk4, PChk5, PChk6, PChk7, PChk8, PChk9, PChk10, PChk11, PChk12, PPar10, PPar11, STab2, PPar12, XLex2, XTok, XPrs, XPrs2, XPrs3, XPrs4, XFmt. -/
import Derived.Test.YtpbdojjfokelaaaDoorSdJ
import Derived.Test.YtpbdojjfokelaaaDoorSdG
import Derived.Test.YtpbdojjfokelaaaDoorSdF
set_option linter.unusedVariables false
set_option maxRecDepth 10000
set_option linter.unusedSimpArgs false
namespace Go.Proofs.YtpbdojjfokelaaaDoor
open Go.AE Delphi Val
variable {tab : Tab}
def tkOf (t : Tm) : Tk := ⟨Int.ofNat t.kind, t.name, t.num⟩
theorem tmsC_tk (l : List Tm) : tmsC l = tksC (l.map tkOf) := by
  unfold tmsC tksC
  rw [List.flatMap_map]; rfl
def FtC (T : Nat → Prop) (w : AW) (f : List Nat × List Tm) (xs : List V) : Prop := ∃ v, xs = [.str f.1, v] ∧ Rd T w v 3 f.2.length (tmsC f.2)
theorem FtC.frm {T S : Nat → Prop} {w w' : AW} {f : List Nat × List Tm} {xs : List V} (h : FtC T w f xs) (hf : Frm S w w') (hd : ∀ x, T x → ¬ S x) : FtC T w' f xs := by
  obtain ⟨v, h1, h2⟩ := h; exact ⟨v, h1, h2.frm hf hd⟩
theorem FtC.one {T : Nat → Prop} {w : AW} {f : List Nat × List Tm} {xs : List V} (h : FtC T w f xs) : xs.length = 2 ∧ allOne xs = true := by
  obtain ⟨v, rfl, h2⟩ := h
  refine ⟨rfl, ?_⟩
  rcases h2.inv with ⟨rfl, _⟩ | ⟨_, _, _, rfl, _⟩ <;> rfl
structure SfF (f : Fr) (n0 b4 : Nat) (av : V) (n i : Nat) : Prop where
  f2 : f.get 2 = some (.ptr n0 0)
  f4 : f.get 4 = some (.ptr b4 0)
  f18 : f.get 18 = some av
  f19 : f.get 19 = some (.int .i64 (Int.ofNat n))
  f20 : f.get 20 = some (.int .i64 (Int.ofNat i))
theorem sfact_ok (C : Codes tab) (PI : Parses tab) (E : ExtIdx tab) {s : List Nat} {aw : AW} {K : V → AW → Prop} (hs : s.length ≤ 1099511627776) (hb : ∀ x ∈ s, x < 256)
    (h : ∀ w xs T, FtC T w (rFact s).1 xs → Frm (fun _ => False) aw w → (∀ x, T x → aw.next ≤ x ∧ x < w.next) → K (.tuple [.agg xs, .int .i64 (Int.ofNat (rFact s).2)]) w) : WF tab n_syntax_Fact [.str s] aw K := by
  refine WF_of C.c_syntax_Fact rfl ?_
  obtain ⟨w0, e0, c0, r0, m0⟩ := box1 aw [.str [], .nilslice]
  refine WS_run 1000 (by simp only [go_sem, eRun_exit, Nat.reduceAdd, Nat.reduceLT, Nat.reduceEqDiff, reduceIte, reduceCtorEq, Nat.reduceLeDiff, k_syntax_Fact, k_syntax_Fact_p6, e0]; rfl) ?_
  refine WS_call (by simp only [go_sem, eRun_exit, Nat.reduceAdd, Nat.reduceLT, Nat.reduceEqDiff, reduceIte, reduceCtorEq, Nat.reduceLeDiff]) (by simp only [go_sem, eRun_exit, Nat.reduceAdd, Nat.reduceLT, Nat.reduceEqDiff, reduceIte, reduceCtorEq, Nat.reduceLeDiff]; rfl) ?_
  refine single_ok C PI E hs hb fun w1 xs T q1 q2 q3 => ?_
  obtain ⟨xl, xo⟩ := q1.one
  have h5 := rQuery_args s
  obtain ⟨av, rfl, hrd⟩ := q1
  have n1 := q2.next
  obtain ⟨w3, s3, c3, r3, n3⟩ := boxed w1 (zs := [V.int .i64 0, V.str [], V.nilslice]) (vs := [.int .i64 (Int.ofNat (rQuery s).1.kind), .str (rQuery s).1.name, av]) rfl xo
  have f03 : Frm (fun _ => False) aw w3 := (r0.tr q2).tr r3
  have cr := ((c0.frm q2 fun h => h).frm r3 fun h => h)
  have hrd3 := hrd.frm r3 fun _ _ h => h
  by_cases he : (rQuery s).2 = 0
  case neg =>
    have hf : rFact s = (([], []), (rQuery s).2) := if_pos he
    rw [hf] at h
    have hst := cr.setAll (vs := [V.str [], V.nilslice]) rfl rfl
    have hrl := (put_cb (l := [V.str [], V.nilslice]) cr.lt).all (n := 2) rfl
    refine WS_run 1000 (by simp only [go_sem, eRun_exit, Nat.reduceAdd, Nat.reduceLT, Nat.reduceEqDiff, reduceIte, reduceCtorEq, Nat.reduceLeDiff, xl, s3, k_syntax_Fact_p5, k_syntax_Fact_p0, he, evParts, fillV, hst, List.length_cons, List.length_nil]; rfl) ?_
    refine WS_ret ⟨_, by simp only [go_sem, eRun_exit, Nat.reduceAdd, Nat.reduceLT, Nat.reduceEqDiff, reduceIte, reduceCtorEq, Nat.reduceLeDiff, k_syntax_Fact, hrl]; rfl, ?_⟩
    exact h _ _ (fun _ => False) ⟨.nilslice, rfl, .nil⟩ (f03.out (Nat.le_refl _) rfl) fun _ h => h.elim
  rw [he]
  have l2 : w3.load w1.next 2 1 = some [av] := CB.ld c3 2 1 _ rfl
  have hlv := hrd3.lenV
  refine WS_run 1000 (by simp only [go_sem, eRun_exit, Nat.reduceAdd, Nat.reduceLT, Nat.reduceEqDiff, reduceIte, reduceCtorEq, Nat.reduceLeDiff, xl, s3, k_syntax_Fact_p5, l2, hlv, List.length_cons, List.length_nil]; rfl) ?_
  have hbad : ∀ (i : Nat) (t : Tm), (rQuery s).1.args[i]? = some t → t.kind = 1 → rFact s = (([], []), 4) := by
    intro i t ht hk
    unfold rFact
    rw [if_neg (by rw [he]; simp), if_pos]
    rw [List.any_eq_true]
    exact ⟨t, List.mem_of_getElem? ht, by rw [hk]; rfl⟩
  have hgood : (∀ (i : Nat) (t : Tm), i < (rQuery s).1.args.length → (rQuery s).1.args[i]? = some t → t.kind ≠ 1) → rFact s = (((rQuery s).1.name, (rQuery s).1.args), 0) := by
    intro hall
    unfold rFact
    rw [if_neg (by rw [he]; simp), if_neg]
    rw [List.any_eq_true]
    rintro ⟨t, ht, hk⟩
    obtain ⟨i, hi⟩ := List.getElem?_of_mem ht
    exact hall i t (List.getElem?_eq_some_iff.1 hi).1 hi (by simpa using hk)
  generalize (rQuery s).1 = l at *
  refine WS_loopJ (fun n f w => ∃ i, SfF f aw.next w1.next av l.args.length i ∧ Frm (fun _ => False) w3 w ∧ i ≤ l.args.length ∧ n = l.args.length - i ∧ ∀ j t, j < i → l.args[j]? = some t → t.kind ≠ 1) (fun f w => SfF f aw.next w1.next av l.args.length l.args.length ∧ Frm (fun _ => False) w3 w ∧ ∀ j t, j < l.args.length → l.args[j]? = some t → t.kind ≠ 1) ?_ ?_ l.args.length
    ⟨0, ⟨(by simp only [go_sem, eRun_exit, Nat.reduceAdd, Nat.reduceLT, Nat.reduceEqDiff, reduceIte, reduceCtorEq, Nat.reduceLeDiff] <;> rfl), (by simp only [go_sem, eRun_exit, Nat.reduceAdd, Nat.reduceLT, Nat.reduceEqDiff, reduceIte, reduceCtorEq, Nat.reduceLeDiff] <;> rfl), (by simp only [go_sem, eRun_exit, Nat.reduceAdd, Nat.reduceLT, Nat.reduceEqDiff, reduceIte, reduceCtorEq, Nat.reduceLeDiff] <;> rfl), (by simp only [go_sem, eRun_exit, Nat.reduceAdd, Nat.reduceLT, Nat.reduceEqDiff, reduceIte, reduceCtorEq, Nat.reduceLeDiff] <;> rfl), (by simp only [go_sem, eRun_exit, Nat.reduceAdd, Nat.reduceLT, Nat.reduceEqDiff, reduceIte, reduceCtorEq, Nat.reduceLeDiff] <;> rfl)⟩, Frm.refl _, Nat.zero_le _, rfl, fun j t hj => by omega⟩
  · rintro n f w ⟨i, ⟨f2, f4, f18, f19, f20⟩, g, hi, rfl, hno⟩ ih out
    by_cases hlt : i < l.args.length
    case neg =>
      obtain rfl : i = l.args.length := by omega
      refine WS_runB 1000 (by simp only [go_sem, Nat.reduceAdd, Nat.reduceLT, Nat.reduceEqDiff, reduceIte, reduceCtorEq, Nat.reduceLeDiff, k_syntax_Fact_p3, f19, f20, hlt]; rfl) ?_
      exact out _ _ _ ⟨⟨(by simp only [go_sem, eRun_exit, Nat.reduceAdd, Nat.reduceLT, Nat.reduceEqDiff, reduceIte, reduceCtorEq, Nat.reduceLeDiff, f2] <;> rfl), (by simp only [go_sem, eRun_exit, Nat.reduceAdd, Nat.reduceLT, Nat.reduceEqDiff, reduceIte, reduceCtorEq, Nat.reduceLeDiff, f4] <;> rfl), (by simp only [go_sem, eRun_exit, Nat.reduceAdd, Nat.reduceLT, Nat.reduceEqDiff, reduceIte, reduceCtorEq, Nat.reduceLeDiff, f18] <;> rfl), (by simp only [go_sem, eRun_exit, Nat.reduceAdd, Nat.reduceLT, Nat.reduceEqDiff, reduceIte, reduceCtorEq, Nat.reduceLeDiff, f19] <;> rfl), (by simp only [go_sem, eRun_exit, Nat.reduceAdd, Nat.reduceLT, Nat.reduceEqDiff, reduceIte, reduceCtorEq, Nat.reduceLeDiff, f20] <;> rfl)⟩, g, hno⟩ rfl
    obtain ⟨t, ht⟩ : ∃ t, l.args[i]? = some t := ⟨_, List.getElem?_eq_getElem hlt⟩
    obtain ⟨b, o, c, rfl, _, hbl, a3, _⟩ := tms_at (hrd3.frm g fun _ _ h => h) ht
    obtain ⟨w5, s5, c5, r5, n5⟩ := boxed w (zs := [V.int .i64 0, V.str [], V.int .i64 0]) (vs := tmC t) rfl rfl
    have a0 : w5.load w.next 0 1 = some [.int .i64 (Int.ofNat t.kind)] := CB.ld c5 0 1 _ rfl
    have hwr : IntKind.wrap .i64 (Int.ofNat i + 1) = Int.ofNat (i + 1) := wrap_succ (by omega)
    by_cases hk : t.kind = 1
    · rw [hbad i t ht hk] at h
      have cw := (cr.frm g fun h => h).frm r5 fun h => h
      have hst := cw.setAll (vs := [V.str [], V.nilslice]) rfl rfl
      have hrl := (put_cb (l := [V.str [], V.nilslice]) cw.lt).all (n := 2) rfl
      refine WS_run 1000 (by simp only [go_sem, eRun_exit, Nat.reduceAdd, Nat.reduceLT, Nat.reduceEqDiff, reduceIte, reduceCtorEq, Nat.reduceLeDiff, k_syntax_Fact_p3, k_syntax_Fact_p2, k_syntax_Fact_p1, f2, f18, f19, f20, hlt, a3, tmC_len, s5, a0, hk, evParts, fillV, hst, List.length_cons, List.length_nil]; rfl) ?_
      refine WS_ret ⟨_, by simp only [go_sem, eRun_exit, Nat.reduceAdd, Nat.reduceLT, Nat.reduceEqDiff, reduceIte, reduceCtorEq, Nat.reduceLeDiff, k_syntax_Fact, f2, hrl]; rfl, ?_⟩
      exact h _ _ (fun _ => False) ⟨.nilslice, rfl, .nil⟩ (((f03.tr g).tr r5).out (Nat.le_refl _) rfl) fun _ h => h.elim
    · refine WS_run 1000 (by simp only [go_sem, eRun_exit, Nat.reduceAdd, Nat.reduceLT, Nat.reduceEqDiff, reduceIte, reduceCtorEq, Nat.reduceLeDiff, k_syntax_Fact_p3, k_syntax_Fact_p2, f2, f18, f19, f20, hlt, a3, tmC_len, s5, a0, hk, hwr]; rfl) ?_
      exact ih _ _ _ (by omega) ⟨i + 1, ⟨(by simp only [go_sem, eRun_exit, Nat.reduceAdd, Nat.reduceLT, Nat.reduceEqDiff, reduceIte, reduceCtorEq, Nat.reduceLeDiff, f2] <;> rfl), (by simp only [go_sem, eRun_exit, Nat.reduceAdd, Nat.reduceLT, Nat.reduceEqDiff, reduceIte, reduceCtorEq, Nat.reduceLeDiff, f4] <;> rfl), (by simp only [go_sem, eRun_exit, Nat.reduceAdd, Nat.reduceLT, Nat.reduceEqDiff, reduceIte, reduceCtorEq, Nat.reduceLeDiff, f18] <;> rfl), (by simp only [go_sem, eRun_exit, Nat.reduceAdd, Nat.reduceLT, Nat.reduceEqDiff, reduceIte, reduceCtorEq, Nat.reduceLeDiff, f19] <;> rfl), (by simp only [go_sem, eRun_exit, Nat.reduceAdd, Nat.reduceLT, Nat.reduceEqDiff, reduceIte, reduceCtorEq, Nat.reduceLeDiff] <;> rfl)⟩, g.tr r5, by omega, rfl, fun j t' hj ht' => by
        rcases Nat.lt_succ_iff_lt_or_eq.1 hj with hj | rfl
        · exact hno j t' hj ht'
        · rw [ht] at ht'; cases ht'; exact hk⟩
  · rintro f w ⟨⟨f2, f4, f18, f19, f20⟩, g, hno⟩
    rw [hgood hno] at h
    have c3w := c3.frm g fun h => h
    have k1 : w.load w1.next 1 1 = some [.str l.name] := CB.ld c3w 1 1 _ rfl
    have k2 : w.load w1.next 2 1 = some [av] := CB.ld c3w 2 1 _ rfl
    have hrdw := hrd3.frm g fun _ _ h => h
    have hft : FtC T w (l.name, l.args) [.str l.name, av] := ⟨av, rfl, hrdw⟩
    have cw := cr.frm g fun h => h
    have avc : av.cells = [av] := by rcases hrdw.inv with ⟨rfl, _⟩ | ⟨_, _, _, rfl, _⟩ <;> rfl
    have hov1 : over [V.str [], V.nilslice] 0 [V.str l.name] = some [V.str l.name, V.nilslice] := rfl
    have hov2 : over [V.str l.name, V.nilslice] 1 [av] = some [V.str l.name, av] := rfl
    have hst := cw.setAll (vs := [V.str l.name, av]) rfl hft.one.2
    have hrl := (put_cb (l := [V.str l.name, av]) cw.lt).all (n := 2) rfl
    have pf : Frm (fun b => b = aw.next) w (w.put aw.next [V.str l.name, av]) := put_frm
    refine WS_run 1000 (by simp only [go_sem, eRun_exit, Nat.reduceAdd, Nat.reduceLT, Nat.reduceEqDiff, reduceIte, reduceCtorEq, Nat.reduceLeDiff, k_syntax_Fact_p4, f2, f4, k1, k2, evParts, fillV, avc, hov1, hov2, hst, List.length_cons, List.length_nil]; rfl) ?_
    refine WS_ret ⟨_, by simp only [go_sem, eRun_exit, Nat.reduceAdd, Nat.reduceLT, Nat.reduceEqDiff, reduceIte, reduceCtorEq, Nat.reduceLeDiff, k_syntax_Fact, f2, hrl]; rfl, ?_⟩
    refine h _ _ T (hft.frm pf fun x hx he => by have := (q3 x hx).1; omega) ((f03.tr g).out (Nat.le_refl _) rfl) fun x hx => ⟨by have := (q3 x hx).1; omega, by have := (q3 x hx).2; have := r3.next; have := g.next; show x < w.next; omega⟩
end Go.Proofs.YtpbdojjfokelaaaDoor
set_option linter.unusedVariables false
set_option maxRecDepth 10000
set_option linter.unusedSimpArgs false
namespace Delphi
end Delphi
namespace Go.Proofs.YtpbdojjfokelaaaDoor
open Go.AE Delphi
variable {tab : Tab}
end Go.Proofs.YtpbdojjfokelaaaDoor
set_option linter.unusedVariables false
set_option maxRecDepth 10000
set_option linter.unusedSimpArgs false
namespace Delphi
end Delphi
namespace Go.Proofs.YtpbdojjfokelaaaDoor
open Go.AE Delphi
variable {tab : Tab}
end Go.Proofs.YtpbdojjfokelaaaDoor
set_option linter.unusedVariables false
set_option maxRecDepth 10000
set_option linter.unusedSimpArgs false
namespace Delphi
end Delphi
namespace Go.Proofs.YtpbdojjfokelaaaDoor
open Go.AE Delphi
variable {tab : Tab}
end Go.Proofs.YtpbdojjfokelaaaDoor
set_option linter.unusedVariables false
set_option maxRecDepth 10000
set_option linter.unusedSimpArgs false
namespace Go.Proofs.YtpbdojjfokelaaaDoor
open Go.AE Delphi
variable {tab : Tab}
def rAll (r : Rl) : List Lt := r.head :: r.body
end Go.Proofs.YtpbdojjfokelaaaDoor
set_option linter.unusedVariables false
set_option maxRecDepth 10000
set_option linter.unusedSimpArgs false
namespace Delphi
open Go.AE
structure Fa where
  name : List Nat
  args : List (Int × List Nat × Int × Unit)
abbrev Ps := List (List Nat × Int)
end Delphi
namespace Go.Proofs.YtpbdojjfokelaaaDoor
open Go.AE Delphi
variable {tab : Tab}
def FaC (T : Nat → Prop) (w : AW) (f : Fa) (xs : List V) : Prop := ∃ v, xs = [.str f.name, v] ∧ ∃ cs, Rd T w v 3 f.args.length cs
theorem FaC.frm {T S : Nat → Prop} {w w' : AW} {l : Fa} {xs : List V} (h : FaC T w l xs) (hf : Frm S w w') (hd : ∀ x, T x → ¬ S x) : FaC T w' l xs := by
  obtain ⟨v, h1, cs, h2⟩ := h; exact ⟨v, h1, cs, h2.frm hf hd⟩
theorem FaC.one {T : Nat → Prop} {w : AW} {l : Fa} {xs : List V} (h : FaC T w l xs) : xs.length = 2 ∧ allOne xs = true := by
  obtain ⟨v, rfl, cs, h2⟩ := h
  refine ⟨rfl, ?_⟩
  rcases h2.inv with ⟨rfl, _⟩ | ⟨_, _, _, rfl, _⟩ <;> rfl
end Go.Proofs.YtpbdojjfokelaaaDoor
set_option linter.unusedVariables false
set_option maxRecDepth 10000
set_option linter.unusedSimpArgs false
namespace Delphi
end Delphi
namespace Go.Proofs.YtpbdojjfokelaaaDoor
open Go.AE Delphi
variable {tab : Tab}
theorem Al.cut {T : Nat → Prop} {w : AW} {b : Nat} {sh : Share} (h : Al T w b sh) : Al (fun x => T x ∧ x < w.next) w b sh := by
  rcases h with rfl | rfl | rfl | ⟨f, F, rfl, h1, h2, h3⟩
  · exact .inl rfl
  · exact .inr (.inl rfl)
  · exact .inr (.inr (.inl rfl))
  · exact .inr (.inr (.inr ⟨f, F, rfl, ⟨h1, h2⟩, h2, h3⟩))
theorem Rd.cut {T : Nat → Prop} {w : AW} {v : V} {esz n : Nat} {cs : List V} (h : Rd T w v esz n cs) : Rd (fun x => T x ∧ x < w.next) w v esz n cs := by
  cases h with
  | nil => exact .nil
  | blk hT hb hx ha hl hcs hc => exact .blk ⟨hT, hb⟩ hb hx (Al.cut ha) hl hcs hc
end Go.Proofs.YtpbdojjfokelaaaDoor
set_option linter.unusedVariables false
set_option maxRecDepth 10000
set_option linter.unusedSimpArgs false
namespace Delphi
open Go.AE
end Delphi
namespace Go.Proofs.YtpbdojjfokelaaaDoor
open Go.AE Delphi
variable {tab : Tab}
def nmsC (L : Ps) : List V := L.map fun p => V.str p.1
def wdtC (L : Ps) : List V := L.map fun p => V.int .i64 p.2
structure NW (aw w : AW) (nv wv : V) (L : Ps) (S1 S2 : Nat → Prop) : Prop where
  a : Bt S1 w nv 1 L.length (nmsC L)
  b : Bt S2 w wv 1 L.length (wdtC L)
  s1 : ∀ x, S1 x → aw.next ≤ x ∧ x < w.next ∧ ¬ S2 x
  s2 : ∀ x, S2 x → aw.next ≤ x ∧ x < w.next
  frm : Frm (fun _ => False) aw w
theorem NW.ext {aw w w2 : AW} {nv wv : V} {L : Ps} {S1 S2 : Nat → Prop} (h : NW aw w nv wv L S1 S2) (hf : Frm (fun _ => False) w w2) : NW aw w2 nv wv L S1 S2 :=
  ⟨h.a.frm hf fun _ _ h => h, h.b.frm hf fun _ _ h => h, fun x hx => by have h1 := h.s1 x hx; have := hf.next; exact ⟨by omega, by omega, h1.2.2⟩, fun x hx => by have h1 := h.s2 x hx; have := hf.next; exact ⟨by omega, by omega⟩, h.frm.tr hf⟩
end Go.Proofs.YtpbdojjfokelaaaDoor
set_option linter.unusedVariables false
set_option maxRecDepth 10000
set_option linter.unusedSimpArgs false
namespace Go.Proofs.YtpbdojjfokelaaaDoor
open Go.AE Delphi
variable {tab : Tab}
structure LV (T : Nat → Prop) (aw w : AW) (lv : V) (r : Rl) (S1 S2 Tl : Nat → Prop) : Prop where
  rd : ∃ xss, Rd Tl w lv 3 (rAll r).length xss.flatten ∧ All2 (LtC T aw) (rAll r) xss
  sep : ∀ x, Tl x → x < w.next ∧ ¬ S1 x ∧ ¬ S2 x
theorem LV.at {T : Nat → Prop} {aw w : AW} {lv : V} {r : Rl} {S1 S2 Tl : Nat → Prop} (h : LV T aw w lv r S1 S2 Tl) {i : Nat} {x : Lt} (hx : (rAll r)[i]? = some x) : ∃ b o c u, lv = .slice b o (rAll r).length c ∧ w.load b (o + i * 3) 1 = some [.int .i64 (Int.ofNat x.kind)] ∧ w.load b (o + i * 3 + 1) 1 = some [.str x.name] ∧ w.load b (o + i * 3 + 2) 1 = some [u] ∧ lenV u = some x.args.length := by
  obtain ⟨xss, h1, h2⟩ := h.rd
  have hlt : i < (rAll r).length := (List.getElem?_eq_some_iff.1 hx).1
  have h3 : RdL (fun _ => LtC T aw) Tl w lv 3 (rAll r) := ⟨xss, h1, h2⟩
  rcases h3.inv (fun a xs hx => (LtC.one hx).1) with ⟨_, q2⟩ | ⟨b, o, c, rfl, _, _, _, hat⟩
  · rw [q2] at hlt; simp at hlt
  · obtain ⟨xs, ⟨u, rfl, hu⟩, hp⟩ := hat i x hx
    exact ⟨b, o, c, u, rfl, hp 0 1 (by omega), hp 1 1 (by omega), hp 2 1 (by omega), hu.lenV⟩
end Go.Proofs.YtpbdojjfokelaaaDoor
set_option linter.unusedVariables false
set_option maxRecDepth 10000
set_option linter.unusedSimpArgs false
namespace Go.Proofs.YtpbdojjfokelaaaDoor
open Go.AE Delphi
variable {tab : Tab}
end Go.Proofs.YtpbdojjfokelaaaDoor
set_option linter.unusedVariables false
set_option maxRecDepth 10000
set_option linter.unusedSimpArgs false
namespace Delphi
def cDefined (rules : List Rl) (nm : List Nat) : Prop := ∃ r ∈ rules, r.head.name = nm
instance (rules : List Rl) (nm : List Nat) : Decidable (cDefined rules nm) := List.decidableBEx _ rules
end Delphi
namespace Go.Proofs.YtpbdojjfokelaaaDoor
open Go.AE Delphi
variable {tab : Tab}
end Go.Proofs.YtpbdojjfokelaaaDoor
set_option linter.unusedVariables false
set_option maxRecDepth 10000
set_option linter.unusedSimpArgs false
namespace Delphi
end Delphi
namespace Go.Proofs.YtpbdojjfokelaaaDoor
open Go.AE Delphi
variable {tab : Tab}
end Go.Proofs.YtpbdojjfokelaaaDoor
set_option linter.unusedVariables false
set_option maxRecDepth 10000
set_option linter.unusedSimpArgs false
namespace Go.Proofs.YtpbdojjfokelaaaDoor
open Go.AE Delphi Val
variable {tab : Tab}
theorem lts_at {T : Nat → Prop} {w : AW} {v : V} {l : List Lt} (h : RdL (LtC T) T w v 3 l) {i : Nat} {t : Lt} (hi : l[i]? = some t) : ∃ b o c xs, v = .slice b o l.length c ∧ w.load b (o + i * 3) 3 = some xs ∧ LtC T w t xs := by
  have hlt : i < l.length := (List.getElem?_eq_some_iff.1 hi).1
  obtain ⟨xss, h1, h2⟩ := h
  obtain ⟨xs, h3, h4⟩ := flat_at (sz := 3) (fun a xs h => h.one.1) h2 hi
  rcases h1.inv with ⟨_, q2, _⟩ | ⟨b, o, c, rfl, hB⟩
  · omega
  · refine ⟨b, o, c, xs, rfl, ?_, h3⟩
    rw [hB.load (i * 3) 3 (by omega)]
    exact congrArg some h4
theorem rls_at3 {T : Nat → Prop} {w : AW} {v : V} {l : List Rl} (h : RdL (RlC T) T w v 4 l) {i : Nat} {t : Rl} (hi : l[i]? = some t) : ∃ b o c xs, v = .slice b o l.length c ∧ w.load b (o + i * 4) 4 = some xs ∧ RlC T w t xs := by
  have hlt : i < l.length := (List.getElem?_eq_some_iff.1 hi).1
  obtain ⟨xss, h1, h2⟩ := h
  obtain ⟨xs, h3, h4⟩ := flat_at (sz := 4) (fun a xs h => h.one.1) h2 hi
  rcases h1.inv with ⟨_, q2, _⟩ | ⟨b, o, c, rfl, hB⟩
  · omega
  · refine ⟨b, o, c, xs, rfl, ?_, h3⟩
    rw [hB.load (i * 4) 4 (by omega)]
    exact congrArg some h4
end Go.Proofs.YtpbdojjfokelaaaDoor
set_option linter.unusedVariables false
set_option maxRecDepth 10000
set_option linter.unusedSimpArgs false
namespace Go.Proofs.YtpbdojjfokelaaaDoor
open Go.AE Delphi Val
variable {tab : Tab}
def cmpT (k : Nat) : List Nat := if k = 3 then [61] else if k = 4 then [33, 61] else if k = 5 then [60] else if k = 6 then [60, 61] else []
def litS (l : Lt) : List Nat :=
  if l.kind = 1 then atomS l.name (l.args.map tkOf)
  else if l.kind = 2 then 33 :: atomS l.name (l.args.map tkOf)
  else match l.args with
    | [a, b] => prT (tkOf a) ++ [32] ++ cmpT l.kind ++ [32] ++ prT (tkOf b)
    | _ => []
def bodyS : List (List Nat) → List Nat
  | [] => []
  | b :: r => [32, 58, 45, 32] ++ joinN (b :: r)
def ruleS (r : Rl) : List Nat := atomS r.head.name (r.head.args.map tkOf) ++ bodyS (r.body.map litS) ++ [46]
structure LtP (l : Lt) : Prop where
  kind : l.kind = 1 ∨ l.kind = 2 ∨ (3 ≤ l.kind ∧ l.kind ≤ 6 ∧ l.args.length = 2)
  nm : l.name.length ≤ 1000
  ar : l.args.length ≤ 1000
  tm : ∀ t ∈ l.args, TkPr (tkOf t)
structure RlP (r : Rl) : Prop where
  head : LtP r.head
  hk : r.head.kind = 1
  body : r.body.length ≤ 7
  lits : ∀ l ∈ r.body, LtP l
theorem LtP.tks {l : Lt} (h : LtP l) : ∀ t ∈ l.args.map tkOf, TkPr t := by
  intro t ht
  obtain ⟨u, hu, rfl⟩ := List.mem_map.1 ht
  exact h.tm u hu
theorem atomS_len {l : Lt} (h : LtP l) : (atomS l.name (l.args.map tkOf)).length ≤ 4000000000001 := by
  have := preS_len (name := l.name) (l := l.args.map tkOf) h.nm (by rw [List.length_map]; exact h.ar) h.tks
  unfold atomS
  unfold preS at this
  split
  · rename_i he; rw [he] at this; simp only at this; omega
  · rename_i he
    split at this
    · contradiction
    · rw [List.length_append]; simp only [List.length_cons, List.length_nil]; omega
theorem cmpT_len (k : Nat) : (cmpT k).length ≤ 2 := by unfold cmpT; (repeat' split) <;> simp
theorem litS_len {l : Lt} (h : LtP l) : (litS l).length ≤ 7000000000000 := by
  have h1 := atomS_len h
  have h2 := cmpT_len l.kind
  unfold litS
  split
  · omega
  · split
    · rw [List.length_cons]; omega
    · split
      · rename_i a b hab
        have ha := (h.tm a (by rw [hab]; simp)).len
        have hb := (h.tm b (by rw [hab]; simp)).len
        simp only [List.length_append, List.length_cons, List.length_nil]; omega
      · simp
theorem joinN_len : ∀ {l : List Lt}, (∀ x ∈ l, LtP x) → (joinN (l.map litS)).length ≤ l.length * 7000000000002 := by
  have h : ∀ {l : List Lt}, (∀ x ∈ l, LtP x) → ((l.map litS).flatMap fun x => [44, 32] ++ x).length ≤ l.length * 7000000000002 := by
    intro l
    induction l with
    | nil => intro _; simp
    | cons x l ih =>
      intro h
      have h1 := litS_len (h x (by simp))
      have h2 := ih fun t ht => h t (by simp [ht])
      rw [List.map_cons, List.flatMap_cons, List.length_append, List.length_append, List.length_cons, List.length_cons, List.length_cons, List.length_nil]; omega
  intro l hl
  cases l with
  | nil => simp [joinN]
  | cons x l =>
    have h1 := litS_len (hl x (by simp))
    have h2 := h (l := l) fun t ht => hl t (by simp [ht])
    simp only [List.map_cons, joinN, List.length_append, List.length_cons]
    omega
def Joins (tab : Tab) : Prop := ∀ (T : Nat → Prop) (w : AW) (v : V) (l : List (List Nat)), Rd T w v 1 l.length (l.map V.str) → l.length ≤ 1000 → (joinN l).length ≤ 100000000000000 → CallR tab n_strings_Join [v, .str [44, 32]] w (.str (joinN l)) w
theorem between_ok (C : Codes tab) {k : Nat} {aw : AW} {K : V → AW → Prop} (h : K (.str (if 3 ≤ k ∧ k ≤ 6 then [32] ++ cmpT k ++ [32] else [])) aw) : WF tab n_syntax_between [.int .i64 (Int.ofNat k)] aw K := by
  refine WF_of C.c_syntax_between rfl ?_
  by_cases h3 : k = 3
  · subst h3
    refine WS_run 1000 (by simp only [go_sem, eRun_exit, Nat.reduceAdd, Nat.reduceLT, Nat.reduceEqDiff, reduceIte, reduceCtorEq, Int.reduceBEq, Int.reduceBNe, Int.reduceLT, Int.reduceLE, Int.reduceGT, Int.reduceGE, Int.reduceEq, Int.reduceAdd, Int.reduceSub, Int.reduceMul, Nat.reduceMul, Nat.reduceSub, Nat.reduceLeDiff, k_syntax_between_p0, k_syntax_between_p1, k_syntax_between_p2, k_syntax_between_p3, k_syntax_between_p4, k_syntax_between_p5, k_syntax_between_p6, k_syntax_between_p7, k_syntax_between]; rfl) ?_
    refine WS_ret ⟨_, by simp only [go_sem, eRun_exit, Nat.reduceAdd, Nat.reduceLT, Nat.reduceEqDiff, reduceIte, reduceCtorEq, Int.reduceBEq, Int.reduceBNe, Int.reduceLT, Int.reduceLE, Int.reduceGT, Int.reduceGE, Int.reduceEq, Int.reduceAdd, Int.reduceSub, Int.reduceMul, Nat.reduceMul, Nat.reduceSub, Nat.reduceLeDiff, k_syntax_between]; rfl, ?_⟩
    exact h
  by_cases h4 : k = 4
  · subst h4
    refine WS_run 1000 (by simp only [go_sem, eRun_exit, Nat.reduceAdd, Nat.reduceLT, Nat.reduceEqDiff, reduceIte, reduceCtorEq, Int.reduceBEq, Int.reduceBNe, Int.reduceLT, Int.reduceLE, Int.reduceGT, Int.reduceGE, Int.reduceEq, Int.reduceAdd, Int.reduceSub, Int.reduceMul, Nat.reduceMul, Nat.reduceSub, Nat.reduceLeDiff, k_syntax_between_p0, k_syntax_between_p1, k_syntax_between_p2, k_syntax_between_p3, k_syntax_between_p4, k_syntax_between_p5, k_syntax_between_p6, k_syntax_between_p7, k_syntax_between]; rfl) ?_
    refine WS_ret ⟨_, by simp only [go_sem, eRun_exit, Nat.reduceAdd, Nat.reduceLT, Nat.reduceEqDiff, reduceIte, reduceCtorEq, Int.reduceBEq, Int.reduceBNe, Int.reduceLT, Int.reduceLE, Int.reduceGT, Int.reduceGE, Int.reduceEq, Int.reduceAdd, Int.reduceSub, Int.reduceMul, Nat.reduceMul, Nat.reduceSub, Nat.reduceLeDiff, k_syntax_between]; rfl, ?_⟩
    exact h
  by_cases h5 : k = 5
  · subst h5
    refine WS_run 1000 (by simp only [go_sem, eRun_exit, Nat.reduceAdd, Nat.reduceLT, Nat.reduceEqDiff, reduceIte, reduceCtorEq, Int.reduceBEq, Int.reduceBNe, Int.reduceLT, Int.reduceLE, Int.reduceGT, Int.reduceGE, Int.reduceEq, Int.reduceAdd, Int.reduceSub, Int.reduceMul, Nat.reduceMul, Nat.reduceSub, Nat.reduceLeDiff, k_syntax_between_p0, k_syntax_between_p1, k_syntax_between_p2, k_syntax_between_p3, k_syntax_between_p4, k_syntax_between_p5, k_syntax_between_p6, k_syntax_between_p7, k_syntax_between]; rfl) ?_
    refine WS_ret ⟨_, by simp only [go_sem, eRun_exit, Nat.reduceAdd, Nat.reduceLT, Nat.reduceEqDiff, reduceIte, reduceCtorEq, Int.reduceBEq, Int.reduceBNe, Int.reduceLT, Int.reduceLE, Int.reduceGT, Int.reduceGE, Int.reduceEq, Int.reduceAdd, Int.reduceSub, Int.reduceMul, Nat.reduceMul, Nat.reduceSub, Nat.reduceLeDiff, k_syntax_between]; rfl, ?_⟩
    exact h
  by_cases h6 : k = 6
  · subst h6
    refine WS_run 1000 (by simp only [go_sem, eRun_exit, Nat.reduceAdd, Nat.reduceLT, Nat.reduceEqDiff, reduceIte, reduceCtorEq, Int.reduceBEq, Int.reduceBNe, Int.reduceLT, Int.reduceLE, Int.reduceGT, Int.reduceGE, Int.reduceEq, Int.reduceAdd, Int.reduceSub, Int.reduceMul, Nat.reduceMul, Nat.reduceSub, Nat.reduceLeDiff, k_syntax_between_p0, k_syntax_between_p1, k_syntax_between_p2, k_syntax_between_p3, k_syntax_between_p4, k_syntax_between_p5, k_syntax_between_p6, k_syntax_between_p7, k_syntax_between]; rfl) ?_
    refine WS_ret ⟨_, by simp only [go_sem, eRun_exit, Nat.reduceAdd, Nat.reduceLT, Nat.reduceEqDiff, reduceIte, reduceCtorEq, Int.reduceBEq, Int.reduceBNe, Int.reduceLT, Int.reduceLE, Int.reduceGT, Int.reduceGE, Int.reduceEq, Int.reduceAdd, Int.reduceSub, Int.reduceMul, Nat.reduceMul, Nat.reduceSub, Nat.reduceLeDiff, k_syntax_between]; rfl, ?_⟩
    exact h
  rw [if_neg (by omega)] at h
  refine WS_run 1000 (by simp only [go_sem, eRun_exit, Nat.reduceAdd, Nat.reduceLT, Nat.reduceEqDiff, reduceIte, reduceCtorEq, Int.reduceBEq, Int.reduceBNe, Int.reduceLT, Int.reduceLE, Int.reduceGT, Int.reduceGE, Int.reduceEq, Int.reduceAdd, Int.reduceSub, Int.reduceMul, Nat.reduceMul, Nat.reduceSub, Nat.reduceLeDiff, k_syntax_between_p0, k_syntax_between_p1, k_syntax_between_p2, k_syntax_between_p3, k_syntax_between_p4, k_syntax_between_p5, k_syntax_between_p6, k_syntax_between_p7, k_syntax_between, h3, h4, h5, h6]; rfl) ?_
  refine WS_ret ⟨_, by simp only [go_sem, eRun_exit, Nat.reduceAdd, Nat.reduceLT, Nat.reduceEqDiff, reduceIte, reduceCtorEq, Int.reduceBEq, Int.reduceBNe, Int.reduceLT, Int.reduceLE, Int.reduceGT, Int.reduceGE, Int.reduceEq, Int.reduceAdd, Int.reduceSub, Int.reduceMul, Nat.reduceMul, Nat.reduceSub, Nat.reduceLeDiff, k_syntax_between]; rfl, ?_⟩
  exact h
theorem slitS_ok (C : Codes tab) (F : Formats tab) {T : Nat → Prop} {l : Lt} {xs : List V} {aw : AW} {K : V → AW → Prop} (hx : LtC T aw l xs) (hp : LtP l) (h : ∀ w, Frm (fun _ => False) aw w → K (.str (litS l)) w) : WF tab n_syntax_literal [.agg xs] aw K := by
  refine WF_of C.c_syntax_literal rfl ?_
  obtain ⟨xv, rfl, hx⟩ := hx
  obtain ⟨w1, e1, c1, r1, m1⟩ := box1 aw [.int .i64 (Int.ofNat l.kind), .str l.name, xv]
  have a0 := CB.ld c1 0 1 _ rfl
  have a1 := CB.ld c1 1 1 _ rfl
  have a2 := CB.ld c1 2 1 _ rfl
  have hx1 := hx.frm r1 fun _ _ h => h
  have hlv := hx1.lenV
  have hne : ∀ s : List Nat, strS BinOp.neq s [] = some (.bool (decide (s ≠ []))) := by
    intro s; cases s <;> rfl
  have hal := atomS_len hp
  have htk : Rd T w1 xv 3 (l.args.map tkOf).length (tksC (l.args.map tkOf)) := by rw [List.length_map, ← tmsC_tk]; exact hx1
  refine WS_run 1000 (by simp only [go_sem, eRun_exit, Nat.reduceAdd, Nat.reduceLT, Nat.reduceEqDiff, reduceIte, reduceCtorEq, Int.reduceBEq, Int.reduceBNe, Int.reduceLT, Int.reduceLE, Int.reduceGT, Int.reduceGE, Int.reduceEq, Int.reduceAdd, Int.reduceSub, Int.reduceMul, Nat.reduceMul, Nat.reduceSub, Nat.reduceLeDiff, k_syntax_literal_p0, k_syntax_literal_p1, k_syntax_literal_p2, k_syntax_literal_p3, k_syntax_literal_p4, k_syntax_literal, e1, a0]; rfl) ?_
  refine WS_call (by simp only [go_sem, eRun_exit, Nat.reduceAdd, Nat.reduceLT, Nat.reduceEqDiff, reduceIte, reduceCtorEq, Int.reduceBEq, Int.reduceBNe, Int.reduceLT, Int.reduceLE, Int.reduceGT, Int.reduceGE, Int.reduceEq, Int.reduceAdd, Int.reduceSub, Int.reduceMul, Nat.reduceMul, Nat.reduceSub, Nat.reduceLeDiff]) (by simp only [go_sem, eRun_exit, Nat.reduceAdd, Nat.reduceLT, Nat.reduceEqDiff, reduceIte, reduceCtorEq, Int.reduceBEq, Int.reduceBNe, Int.reduceLT, Int.reduceLE, Int.reduceGT, Int.reduceGE, Int.reduceEq, Int.reduceAdd, Int.reduceSub, Int.reduceMul, Nat.reduceMul, Nat.reduceSub, Nat.reduceLeDiff]; rfl) ?_
  refine between_ok C ?_
  by_cases h36 : 3 ≤ l.kind ∧ l.kind ≤ 6
  · rw [if_pos h36]
    obtain ⟨bt, hbt⟩ : ∃ bt, bt = [32] ++ cmpT l.kind ++ [32] := ⟨_, rfl⟩
    rw [← hbt]
    have hbl4 : bt.length ≤ 4 := by have := cmpT_len l.kind; rw [hbt]; simp only [List.length_append, List.length_cons, List.length_nil]; omega
    have h2 : l.args.length = 2 := by rcases hp.kind with h | h | h; omega; omega; exact h.2.2
    obtain ⟨a, b, hab⟩ : ∃ a b, l.args = [a, b] := by
      match hh : l.args, h2 with
      | [a, b], _ => exact ⟨a, b, rfl⟩
    obtain ⟨bb, o, c, rfl, _, hbl, la, _⟩ := tms_at hx1 (i := 0) (t := a) (by rw [hab]; rfl)
    obtain ⟨bb', o', c', he, _, _, lb, _⟩ := tms_at hx1 (i := 1) (t := b) (by rw [hab]; rfl)
    cases he
    have ha := hp.tm a (by rw [hab]; simp)
    have hb := hp.tm b (by rw [hab]; simp)
    rw [h2] at a2 hlv
    rw [Nat.zero_mul, Nat.add_zero] at la
    have lb : w1.load bb (o + 3) 3 = some (tmC b) := lb
    have hd1 : decide (bt ≠ []) = true := by rw [hbt]; simp
    have hr : litS l = prT (tkOf a) ++ [32] ++ cmpT l.kind ++ [32] ++ prT (tkOf b) := by
      unfold litS
      rw [if_neg (by omega), if_neg (by omega), hab]
    have hne' := hne bt
    rw [hd1] at hne'
    refine WS_run 1000 (by simp only [go_sem, eRun_exit, Nat.reduceAdd, Nat.reduceLT, Nat.reduceEqDiff, reduceIte, reduceCtorEq, Int.reduceBEq, Int.reduceBNe, Int.reduceLT, Int.reduceLE, Int.reduceGT, Int.reduceGE, Int.reduceEq, Int.reduceAdd, Int.reduceSub, Int.reduceMul, Nat.reduceMul, Nat.reduceSub, Nat.reduceLeDiff, a2, hlv, hne', h2]; rfl) ?_
    refine WS_drawn ?_
    refine WDs_run 100 (by simp only [go_sem, eRun_exit, Nat.reduceAdd, Nat.reduceLT, Nat.reduceEqDiff, reduceIte, reduceCtorEq, Int.reduceBEq, Int.reduceBNe, Int.reduceLT, Int.reduceLE, Int.reduceGT, Int.reduceGE, Int.reduceEq, Int.reduceAdd, Int.reduceSub, Int.reduceMul, Nat.reduceMul, Nat.reduceSub, Nat.reduceLeDiff, a2, la]; rfl) ?_
    refine WDs_call (by simp only [go_sem, eRun_exit, Nat.reduceAdd, Nat.reduceLT, Nat.reduceEqDiff, reduceIte, reduceCtorEq, Int.reduceBEq, Int.reduceBNe, Int.reduceLT, Int.reduceLE, Int.reduceGT, Int.reduceGE, Int.reduceEq, Int.reduceAdd, Int.reduceSub, Int.reduceMul, Nat.reduceMul, Nat.reduceSub, Nat.reduceLeDiff]) (by simp only [go_sem, eRun_exit, Nat.reduceAdd, Nat.reduceLT, Nat.reduceEqDiff, reduceIte, reduceCtorEq, Int.reduceBEq, Int.reduceBNe, Int.reduceLT, Int.reduceLE, Int.reduceGT, Int.reduceGE, Int.reduceEq, Int.reduceAdd, Int.reduceSub, Int.reduceMul, Nat.reduceMul, Nat.reduceSub, Nat.reduceLeDiff]; rfl) ?_
    refine print_ok C F (t := tkOf a) ha.num fun w2 g2 => ?_
    have f12 := r1.tr g2
    have a2' := CB.ld (c1.frm g2 fun h => h) 2 1 _ rfl
    rw [h2] at a2'
    have hx2 := hx1.frm g2 fun _ _ h => h
    obtain ⟨bb2, o2, c2, he2, _, _, lb2, _⟩ := tms_at hx2 (i := 1) (t := b) (by rw [hab]; rfl)
    cases he2
    have lb2 : w2.load bb (o + 3) 3 = some (tmC b) := lb2
    have hl1 := ha.len
    have hl2 := hb.len
    have hcl := cmpT_len l.kind
    have hadd1 : strS BinOp.add (if (tkOf a).k = 3 then fmtI (tkOf a).n else (tkOf a).s) bt = some (.str (prT (tkOf a) ++ bt)) := by
      have : (if (tkOf a).k = 3 then fmtI (tkOf a).n else (tkOf a).s) = prT (tkOf a) := rfl
      rw [this]
      simp only [strS, List.length_append, List.length_cons, List.length_nil]; rw [if_pos (by omega)]
    have hadd2 : strS BinOp.add (prT (tkOf a) ++ bt) (if (tkOf b).k = 3 then fmtI (tkOf b).n else (tkOf b).s) = some (.str (litS l)) := by
      have : (if (tkOf b).k = 3 then fmtI (tkOf b).n else (tkOf b).s) = prT (tkOf b) := rfl
      rw [this, hr]
      simp only [strS, List.length_append, List.length_cons, List.length_nil]; rw [if_pos (by omega)]
      rw [hbt]; simp only [List.append_assoc]
    refine WDs_run 100 (by simp only [go_sem, eRun_exit, Nat.reduceAdd, Nat.reduceLT, Nat.reduceEqDiff, reduceIte, reduceCtorEq, Int.reduceBEq, Int.reduceBNe, Int.reduceLT, Int.reduceLE, Int.reduceGT, Int.reduceGE, Int.reduceEq, Int.reduceAdd, Int.reduceSub, Int.reduceMul, Nat.reduceMul, Nat.reduceSub, Nat.reduceLeDiff, hadd1, a2', lb2]; rfl) ?_
    refine WDs_call (by simp only [go_sem, eRun_exit, Nat.reduceAdd, Nat.reduceLT, Nat.reduceEqDiff, reduceIte, reduceCtorEq, Int.reduceBEq, Int.reduceBNe, Int.reduceLT, Int.reduceLE, Int.reduceGT, Int.reduceGE, Int.reduceEq, Int.reduceAdd, Int.reduceSub, Int.reduceMul, Nat.reduceMul, Nat.reduceSub, Nat.reduceLeDiff]) (by simp only [go_sem, eRun_exit, Nat.reduceAdd, Nat.reduceLT, Nat.reduceEqDiff, reduceIte, reduceCtorEq, Int.reduceBEq, Int.reduceBNe, Int.reduceLT, Int.reduceLE, Int.reduceGT, Int.reduceGE, Int.reduceEq, Int.reduceAdd, Int.reduceSub, Int.reduceMul, Nat.reduceMul, Nat.reduceSub, Nat.reduceLeDiff]; rfl) ?_
    refine print_ok C F (t := tkOf b) hb.num fun w3 g3 => ?_
    refine WDs_run 100 (by simp only [go_sem, eRun_exit, Nat.reduceAdd, Nat.reduceLT, Nat.reduceEqDiff, reduceIte, reduceCtorEq, Int.reduceBEq, Int.reduceBNe, Int.reduceLT, Int.reduceLE, Int.reduceGT, Int.reduceGE, Int.reduceEq, Int.reduceAdd, Int.reduceSub, Int.reduceMul, Nat.reduceMul, Nat.reduceSub, Nat.reduceLeDiff, hadd2]; rfl) ?_
    refine WDs_nil ⟨(show chkAll _ _ [(8, 4), (10, 4)] from by simp only [go_sem, eRun_exit, Nat.reduceAdd, Nat.reduceLT, Nat.reduceEqDiff, reduceIte, reduceCtorEq, Int.reduceBEq, Int.reduceBNe, Int.reduceLT, Int.reduceLE, Int.reduceGT, Int.reduceGE, Int.reduceEq, Int.reduceAdd, Int.reduceSub, Int.reduceMul, Nat.reduceMul, Nat.reduceSub, Nat.reduceLeDiff, chkAll, chk, List.reverse_cons, List.reverse_nil, mkStp_fe, mkStp_v, mkStp_0, mkStp_1, List.getElem?_nil, false_or, or_true, or_false, exists_eq', Option.some.injEq, Prod.mk.injEq, Bool.true_eq_false, Bool.false_eq_true, and_true, true_and, implies_true,  a2, a2', lb, lb2]), ?_⟩
    refine WS_ret ⟨_, by simp only [go_sem, eRun_exit, Nat.reduceAdd, Nat.reduceLT, Nat.reduceEqDiff, reduceIte, reduceCtorEq, Int.reduceBEq, Int.reduceBNe, Int.reduceLT, Int.reduceLE, Int.reduceGT, Int.reduceGE, Int.reduceEq, Int.reduceAdd, Int.reduceSub, Int.reduceMul, Nat.reduceMul, Nat.reduceSub, Nat.reduceLeDiff, k_syntax_literal]; rfl, ?_⟩
    exact h w3 (f12.tr g3)
  · rw [if_neg h36]
    have hd1 : strS BinOp.neq ([] : List Nat) [] = some (.bool false) := rfl
    rcases hp.kind with hk | hk | hk
    · have hr : litS l = atomS l.name (l.args.map tkOf) := if_pos hk
      rw [hr] at h
      refine WS_run 1000 (by simp only [go_sem, eRun_exit, Nat.reduceAdd, Nat.reduceLT, Nat.reduceEqDiff, reduceIte, reduceCtorEq, Int.reduceBEq, Int.reduceBNe, Int.reduceLT, Int.reduceLE, Int.reduceGT, Int.reduceGE, Int.reduceEq, Int.reduceAdd, Int.reduceSub, Int.reduceMul, Nat.reduceMul, Nat.reduceSub, Nat.reduceLeDiff, hd1, a0, a1, a2, hk]; rfl) ?_
      refine WS_call (by simp only [go_sem, eRun_exit, Nat.reduceAdd, Nat.reduceLT, Nat.reduceEqDiff, reduceIte, reduceCtorEq, Int.reduceBEq, Int.reduceBNe, Int.reduceLT, Int.reduceLE, Int.reduceGT, Int.reduceGE, Int.reduceEq, Int.reduceAdd, Int.reduceSub, Int.reduceMul, Nat.reduceMul, Nat.reduceSub, Nat.reduceLeDiff]) (by simp only [go_sem, eRun_exit, Nat.reduceAdd, Nat.reduceLT, Nat.reduceEqDiff, reduceIte, reduceCtorEq, Int.reduceBEq, Int.reduceBNe, Int.reduceLT, Int.reduceLE, Int.reduceGT, Int.reduceGE, Int.reduceEq, Int.reduceAdd, Int.reduceSub, Int.reduceMul, Nat.reduceMul, Nat.reduceSub, Nat.reduceLeDiff]; rfl) ?_
      refine atom_ok C F htk (by rw [List.length_map]; exact hp.ar) hp.nm hp.tks fun w2 g2 => ?_
      refine WS_run 1000 (by simp only [go_sem, eRun_exit, Nat.reduceAdd, Nat.reduceLT, Nat.reduceEqDiff, reduceIte, reduceCtorEq, Int.reduceBEq, Int.reduceBNe, Int.reduceLT, Int.reduceLE, Int.reduceGT, Int.reduceGE, Int.reduceEq, Int.reduceAdd, Int.reduceSub, Int.reduceMul, Nat.reduceMul, Nat.reduceSub, Nat.reduceLeDiff]; rfl) ?_
      refine WS_ret ⟨_, by simp only [go_sem, eRun_exit, Nat.reduceAdd, Nat.reduceLT, Nat.reduceEqDiff, reduceIte, reduceCtorEq, Int.reduceBEq, Int.reduceBNe, Int.reduceLT, Int.reduceLE, Int.reduceGT, Int.reduceGE, Int.reduceEq, Int.reduceAdd, Int.reduceSub, Int.reduceMul, Nat.reduceMul, Nat.reduceSub, Nat.reduceLeDiff, k_syntax_literal]; rfl, ?_⟩
      exact h w2 (r1.tr g2)
    · have hr : litS l = 33 :: atomS l.name (l.args.map tkOf) := by unfold litS; rw [if_neg (by omega), if_pos hk]
      rw [hr] at h
      have hadd : strS BinOp.add [33] (atomS l.name (l.args.map tkOf)) = some (.str (33 :: atomS l.name (l.args.map tkOf))) := by
        simp only [strS, List.length_cons, List.length_nil]; rw [if_pos (by omega)]; rfl
      refine WS_run 1000 (by simp only [go_sem, eRun_exit, Nat.reduceAdd, Nat.reduceLT, Nat.reduceEqDiff, reduceIte, reduceCtorEq, Int.reduceBEq, Int.reduceBNe, Int.reduceLT, Int.reduceLE, Int.reduceGT, Int.reduceGE, Int.reduceEq, Int.reduceAdd, Int.reduceSub, Int.reduceMul, Nat.reduceMul, Nat.reduceSub, Nat.reduceLeDiff, hd1, a0, a1, a2, hk]; rfl) ?_
      refine WS_call (by simp only [go_sem, eRun_exit, Nat.reduceAdd, Nat.reduceLT, Nat.reduceEqDiff, reduceIte, reduceCtorEq, Int.reduceBEq, Int.reduceBNe, Int.reduceLT, Int.reduceLE, Int.reduceGT, Int.reduceGE, Int.reduceEq, Int.reduceAdd, Int.reduceSub, Int.reduceMul, Nat.reduceMul, Nat.reduceSub, Nat.reduceLeDiff]) (by simp only [go_sem, eRun_exit, Nat.reduceAdd, Nat.reduceLT, Nat.reduceEqDiff, reduceIte, reduceCtorEq, Int.reduceBEq, Int.reduceBNe, Int.reduceLT, Int.reduceLE, Int.reduceGT, Int.reduceGE, Int.reduceEq, Int.reduceAdd, Int.reduceSub, Int.reduceMul, Nat.reduceMul, Nat.reduceSub, Nat.reduceLeDiff]; rfl) ?_
      refine atom_ok C F htk (by rw [List.length_map]; exact hp.ar) hp.nm hp.tks fun w2 g2 => ?_
      refine WS_run 1000 (by simp only [go_sem, eRun_exit, Nat.reduceAdd, Nat.reduceLT, Nat.reduceEqDiff, reduceIte, reduceCtorEq, Int.reduceBEq, Int.reduceBNe, Int.reduceLT, Int.reduceLE, Int.reduceGT, Int.reduceGE, Int.reduceEq, Int.reduceAdd, Int.reduceSub, Int.reduceMul, Nat.reduceMul, Nat.reduceSub, Nat.reduceLeDiff, hadd]; rfl) ?_
      refine WS_ret ⟨_, by simp only [go_sem, eRun_exit, Nat.reduceAdd, Nat.reduceLT, Nat.reduceEqDiff, reduceIte, reduceCtorEq, Int.reduceBEq, Int.reduceBNe, Int.reduceLT, Int.reduceLE, Int.reduceGT, Int.reduceGE, Int.reduceEq, Int.reduceAdd, Int.reduceSub, Int.reduceMul, Nat.reduceMul, Nat.reduceSub, Nat.reduceLeDiff, k_syntax_literal]; rfl, ?_⟩
      exact h w2 (r1.tr g2)
    · omega
def PrtI (aw w2 : AW) (bv : V) (r : Rl) (q : Nat) (f : Fr) (w : AW) : Prop :=
  ∃ i v S, f.get 1 = some (.ptr aw.next 0) ∧ f.get 3 = some v ∧ f.get 8 = some bv ∧ f.get 9 = some (.int .i64 (Int.ofNat r.body.length)) ∧ f.get 10 = some (.int .i64 (Int.ofNat i)) ∧ Frm (fun _ => False) w2 w ∧ Buf S w v 1 i (((r.body.take i).map litS).map V.str) ∧ (∀ x, S x → w2.next ≤ x ∧ x < w.next) ∧ i ≤ r.body.length ∧ q = r.body.length - i
theorem sprint_ok (C : Codes tab) (F : Formats tab) (J : Joins tab) {T : Nat → Prop} {r : Rl} {xs : List V} {aw : AW} {K : V → AW → Prop} (hx : RlC T aw r xs) (hp : RlP r) (h : ∀ w, Frm (fun _ => False) aw w → K (.str (ruleS r)) w) : WF tab n_syntax_Print [.agg xs] aw K := by
  refine WF_of C.c_syntax_Print rfl ?_
  obtain ⟨xv, xb, rfl, hxh, hxb⟩ := hx
  obtain ⟨w1, e1, c1, r1, m1⟩ := box1 aw [.int .i64 (Int.ofNat r.head.kind), .str r.head.name, xv, xb]
  have a3 := CB.ld c1 3 1 _ rfl
  have hbv : lenV xb = some r.body.length := by obtain ⟨xss, q1, _⟩ := hxb; exact q1.lenV
  have hbl := hp.body
  refine WS_run 1000 (by simp only [go_sem, eRun_exit, Nat.reduceAdd, Nat.reduceLT, Nat.reduceEqDiff, reduceIte, reduceCtorEq, Int.reduceBEq, Int.reduceBNe, Int.reduceLT, Int.reduceLE, Int.reduceGT, Int.reduceGE, Int.reduceEq, Int.reduceAdd, Int.reduceSub, Int.reduceMul, Nat.reduceMul, Nat.reduceSub, Nat.reduceLeDiff, k_syntax_Print, k_syntax_Print_p5, e1, a3, hbv]; rfl) ?_
  refine WS_loopJ (PrtI aw w1 xb r) (PrtI aw w1 xb r 0) ?_ ?_ r.body.length ⟨0, .nilslice, fun _ => False, (by simp only [go_sem, eRun_exit, Nat.reduceAdd, Nat.reduceLT, Nat.reduceEqDiff, reduceIte, reduceCtorEq, Int.reduceBEq, Int.reduceBNe, Int.reduceLT, Int.reduceLE, Int.reduceGT, Int.reduceGE, Int.reduceEq, Int.reduceAdd, Int.reduceSub, Int.reduceMul, Nat.reduceMul, Nat.reduceSub, Nat.reduceLeDiff] <;> rfl), (by simp only [go_sem, eRun_exit, Nat.reduceAdd, Nat.reduceLT, Nat.reduceEqDiff, reduceIte, reduceCtorEq, Int.reduceBEq, Int.reduceBNe, Int.reduceLT, Int.reduceLE, Int.reduceGT, Int.reduceGE, Int.reduceEq, Int.reduceAdd, Int.reduceSub, Int.reduceMul, Nat.reduceMul, Nat.reduceSub, Nat.reduceLeDiff] <;> rfl), (by simp only [go_sem, eRun_exit, Nat.reduceAdd, Nat.reduceLT, Nat.reduceEqDiff, reduceIte, reduceCtorEq, Int.reduceBEq, Int.reduceBNe, Int.reduceLT, Int.reduceLE, Int.reduceGT, Int.reduceGE, Int.reduceEq, Int.reduceAdd, Int.reduceSub, Int.reduceMul, Nat.reduceMul, Nat.reduceSub, Nat.reduceLeDiff] <;> rfl), (by simp only [go_sem, eRun_exit, Nat.reduceAdd, Nat.reduceLT, Nat.reduceEqDiff, reduceIte, reduceCtorEq, Int.reduceBEq, Int.reduceBNe, Int.reduceLT, Int.reduceLE, Int.reduceGT, Int.reduceGE, Int.reduceEq, Int.reduceAdd, Int.reduceSub, Int.reduceMul, Nat.reduceMul, Nat.reduceSub, Nat.reduceLeDiff] <;> rfl), (by simp only [go_sem, eRun_exit, Nat.reduceAdd, Nat.reduceLT, Nat.reduceEqDiff, reduceIte, reduceCtorEq, Int.reduceBEq, Int.reduceBNe, Int.reduceLT, Int.reduceLE, Int.reduceGT, Int.reduceGE, Int.reduceEq, Int.reduceAdd, Int.reduceSub, Int.reduceMul, Nat.reduceMul, Nat.reduceSub, Nat.reduceLeDiff] <;> rfl), Frm.refl _, .nil, fun _ h => h.elim, Nat.zero_le _, rfl⟩
  · rintro q f w ⟨i, v, S, f1, f3, f8, f9, f10, g, hB, hS, hi, rfl⟩ ih out
    by_cases hlt : i < r.body.length
    case neg =>
      refine WS_runB 1000 (by simp only [go_sem, Nat.reduceAdd, Nat.reduceLT, Nat.reduceEqDiff, reduceIte, reduceCtorEq, Int.reduceBEq, Int.reduceBNe, Int.reduceLT, Int.reduceLE, Int.reduceGT, Int.reduceGE, Int.reduceEq, Int.reduceAdd, Int.reduceSub, Int.reduceMul, Nat.reduceMul, Nat.reduceSub, Nat.reduceLeDiff, k_syntax_Print_p2, f9, f10, hlt]; rfl) ?_
      exact out _ _ _ ⟨i, v, S, (by simp only [go_sem, eRun_exit, Nat.reduceAdd, Nat.reduceLT, Nat.reduceEqDiff, reduceIte, reduceCtorEq, Int.reduceBEq, Int.reduceBNe, Int.reduceLT, Int.reduceLE, Int.reduceGT, Int.reduceGE, Int.reduceEq, Int.reduceAdd, Int.reduceSub, Int.reduceMul, Nat.reduceMul, Nat.reduceSub, Nat.reduceLeDiff, f1] <;> rfl), (by simp only [go_sem, eRun_exit, Nat.reduceAdd, Nat.reduceLT, Nat.reduceEqDiff, reduceIte, reduceCtorEq, Int.reduceBEq, Int.reduceBNe, Int.reduceLT, Int.reduceLE, Int.reduceGT, Int.reduceGE, Int.reduceEq, Int.reduceAdd, Int.reduceSub, Int.reduceMul, Nat.reduceMul, Nat.reduceSub, Nat.reduceLeDiff, f3] <;> rfl), (by simp only [go_sem, eRun_exit, Nat.reduceAdd, Nat.reduceLT, Nat.reduceEqDiff, reduceIte, reduceCtorEq, Int.reduceBEq, Int.reduceBNe, Int.reduceLT, Int.reduceLE, Int.reduceGT, Int.reduceGE, Int.reduceEq, Int.reduceAdd, Int.reduceSub, Int.reduceMul, Nat.reduceMul, Nat.reduceSub, Nat.reduceLeDiff, f8] <;> rfl), (by simp only [go_sem, eRun_exit, Nat.reduceAdd, Nat.reduceLT, Nat.reduceEqDiff, reduceIte, reduceCtorEq, Int.reduceBEq, Int.reduceBNe, Int.reduceLT, Int.reduceLE, Int.reduceGT, Int.reduceGE, Int.reduceEq, Int.reduceAdd, Int.reduceSub, Int.reduceMul, Nat.reduceMul, Nat.reduceSub, Nat.reduceLeDiff, f9] <;> rfl), (by simp only [go_sem, eRun_exit, Nat.reduceAdd, Nat.reduceLT, Nat.reduceEqDiff, reduceIte, reduceCtorEq, Int.reduceBEq, Int.reduceBNe, Int.reduceLT, Int.reduceLE, Int.reduceGT, Int.reduceGE, Int.reduceEq, Int.reduceAdd, Int.reduceSub, Int.reduceMul, Nat.reduceMul, Nat.reduceSub, Nat.reduceLeDiff, f10] <;> rfl), g, hB, hS, hi, by omega⟩ rfl
    obtain ⟨t, ht⟩ : ∃ t, r.body[i]? = some t := ⟨_, List.getElem?_eq_getElem hlt⟩
    have f0w := r1.tr g
    obtain ⟨b, o, c, ys, rfl, la, ha⟩ := lts_at (hxb.frm (fun _ _ h => h.frm f0w fun _ _ h => h) f0w fun _ _ h => h) ht
    obtain ⟨yl, yo⟩ := ha.one
    obtain ⟨w2, s2, c2, r2, n2⟩ := boxed w (zs := [V.int .i64 0, V.str [], V.nilslice]) (vs := ys) (by rw [yl]; rfl) yo
    have k2 := c2.all yl
    have hwr : IntKind.wrap .i64 (Int.ofNat i + 1) = Int.ofNat (i + 1) := wrap_succ (by omega)
    refine WS_run 1000 (by simp only [go_sem, eRun_exit, Nat.reduceAdd, Nat.reduceLT, Nat.reduceEqDiff, reduceIte, reduceCtorEq, Int.reduceBEq, Int.reduceBNe, Int.reduceLT, Int.reduceLE, Int.reduceGT, Int.reduceGE, Int.reduceEq, Int.reduceAdd, Int.reduceSub, Int.reduceMul, Nat.reduceMul, Nat.reduceSub, Nat.reduceLeDiff, k_syntax_Print_p0, k_syntax_Print_p1, k_syntax_Print_p2, k_syntax_Print_p3, k_syntax_Print_p4, k_syntax_Print_p5, k_syntax_Print, f1, f3, f8, f9, f10, hlt, la, yl, s2, k2]; rfl) ?_
    refine WS_call (by simp only [go_sem, eRun_exit, Nat.reduceAdd, Nat.reduceLT, Nat.reduceEqDiff, reduceIte, reduceCtorEq, Int.reduceBEq, Int.reduceBNe, Int.reduceLT, Int.reduceLE, Int.reduceGT, Int.reduceGE, Int.reduceEq, Int.reduceAdd, Int.reduceSub, Int.reduceMul, Nat.reduceMul, Nat.reduceSub, Nat.reduceLeDiff]) (by simp only [go_sem, eRun_exit, Nat.reduceAdd, Nat.reduceLT, Nat.reduceEqDiff, reduceIte, reduceCtorEq, Int.reduceBEq, Int.reduceBNe, Int.reduceLT, Int.reduceLE, Int.reduceGT, Int.reduceGE, Int.reduceEq, Int.reduceAdd, Int.reduceSub, Int.reduceMul, Nat.reduceMul, Nat.reduceSub, Nat.reduceLeDiff]; rfl) ?_
    refine slitS_ok C F (ha.frm r2 fun _ _ h => h) (hp.lits t (List.mem_of_getElem? ht)) fun w3 g3 => ?_
    have g23 : Frm (fun _ => False) w w3 := r2.tr g3
    have hB3 := hB.frm g23 fun _ _ h => h
    have n3 := g23.next
    obtain ⟨v', w5, S5, a1, a2, a3', a4⟩ := hB3.push (news := [V.str (litS t)]) (bytes := 16) (fun b hb => by have := (hS b hb).2; omega) (by omega) rfl rfl (by omega) (by omega)
    have hel : (w3.fresh [V.str (litS t)]).elems 1 (.slice w3.next 0 1 (.known 1)) = some (1, [V.str (litS t)]) := elems_fresh (by omega) rfl
    have n1 := g.next
    have htk : r.body.take (i + 1) = r.body.take i ++ [t] := by rw [List.take_add_one, ht]; rfl
    refine WS_run 1000 (by simp only [go_sem, eRun_exit, Nat.reduceAdd, Nat.reduceLT, Nat.reduceEqDiff, reduceIte, reduceCtorEq, Int.reduceBEq, Int.reduceBNe, Int.reduceLT, Int.reduceLE, Int.reduceGT, Int.reduceGE, Int.reduceEq, Int.reduceAdd, Int.reduceSub, Int.reduceMul, Nat.reduceMul, Nat.reduceSub, Nat.reduceLeDiff, f3, f10, evParts, fillV, over, List.length_cons, List.length_nil, hel, a1, hwr]; rfl) ?_
    refine ih _ _ _ (by omega) ⟨i + 1, v', S5, (by simp only [go_sem, eRun_exit, Nat.reduceAdd, Nat.reduceLT, Nat.reduceEqDiff, reduceIte, reduceCtorEq, Int.reduceBEq, Int.reduceBNe, Int.reduceLT, Int.reduceLE, Int.reduceGT, Int.reduceGE, Int.reduceEq, Int.reduceAdd, Int.reduceSub, Int.reduceMul, Nat.reduceMul, Nat.reduceSub, Nat.reduceLeDiff, f1] <;> rfl), (by simp only [go_sem, eRun_exit, Nat.reduceAdd, Nat.reduceLT, Nat.reduceEqDiff, reduceIte, reduceCtorEq, Int.reduceBEq, Int.reduceBNe, Int.reduceLT, Int.reduceLE, Int.reduceGT, Int.reduceGE, Int.reduceEq, Int.reduceAdd, Int.reduceSub, Int.reduceMul, Nat.reduceMul, Nat.reduceSub, Nat.reduceLeDiff] <;> rfl), (by simp only [go_sem, eRun_exit, Nat.reduceAdd, Nat.reduceLT, Nat.reduceEqDiff, reduceIte, reduceCtorEq, Int.reduceBEq, Int.reduceBNe, Int.reduceLT, Int.reduceLE, Int.reduceGT, Int.reduceGE, Int.reduceEq, Int.reduceAdd, Int.reduceSub, Int.reduceMul, Nat.reduceMul, Nat.reduceSub, Nat.reduceLeDiff, f8] <;> rfl), (by simp only [go_sem, eRun_exit, Nat.reduceAdd, Nat.reduceLT, Nat.reduceEqDiff, reduceIte, reduceCtorEq, Int.reduceBEq, Int.reduceBNe, Int.reduceLT, Int.reduceLE, Int.reduceGT, Int.reduceGE, Int.reduceEq, Int.reduceAdd, Int.reduceSub, Int.reduceMul, Nat.reduceMul, Nat.reduceSub, Nat.reduceLeDiff, f9] <;> rfl), (by simp only [go_sem, eRun_exit, Nat.reduceAdd, Nat.reduceLT, Nat.reduceEqDiff, reduceIte, reduceCtorEq, Int.reduceBEq, Int.reduceBNe, Int.reduceLT, Int.reduceLE, Int.reduceGT, Int.reduceGE, Int.reduceEq, Int.reduceAdd, Int.reduceSub, Int.reduceMul, Nat.reduceMul, Nat.reduceSub, Nat.reduceLeDiff] <;> rfl), (g.tr g23).trans a3' (fun _ _ h => h) (fun x hx h => by have := (hS x h).1; omega), ?_, fun x hx => ?_, by omega, rfl⟩
    · rw [htk, List.map_append, List.map_append]; exact a2
    · obtain ⟨m1, m2⟩ := a4 x hx
      refine ⟨?_, m1⟩
      rcases m2 with m2 | m2
      · exact (hS x m2).1
      · omega
  · rintro f w ⟨i, v, S, f1, f3, f8, f9, f10, g, hB, hS, hi, hq⟩
    obtain rfl : i = r.body.length := by omega
    rw [List.take_length] at hB
    have cw := c1.frm g fun h => h
    have b0 := CB.ld cw 0 3 _ rfl
    have f0w := r1.tr g
    refine WS_run 1000 (by simp only [go_sem, eRun_exit, Nat.reduceAdd, Nat.reduceLT, Nat.reduceEqDiff, reduceIte, reduceCtorEq, Int.reduceBEq, Int.reduceBNe, Int.reduceLT, Int.reduceLE, Int.reduceGT, Int.reduceGE, Int.reduceEq, Int.reduceAdd, Int.reduceSub, Int.reduceMul, Nat.reduceMul, Nat.reduceSub, Nat.reduceLeDiff, f1, b0]; rfl) ?_
    refine WS_call (by simp only [go_sem, eRun_exit, Nat.reduceAdd, Nat.reduceLT, Nat.reduceEqDiff, reduceIte, reduceCtorEq, Int.reduceBEq, Int.reduceBNe, Int.reduceLT, Int.reduceLE, Int.reduceGT, Int.reduceGE, Int.reduceEq, Int.reduceAdd, Int.reduceSub, Int.reduceMul, Nat.reduceMul, Nat.reduceSub, Nat.reduceLeDiff]) (by simp only [go_sem, eRun_exit, Nat.reduceAdd, Nat.reduceLT, Nat.reduceEqDiff, reduceIte, reduceCtorEq, Int.reduceBEq, Int.reduceBNe, Int.reduceLT, Int.reduceLE, Int.reduceGT, Int.reduceGE, Int.reduceEq, Int.reduceAdd, Int.reduceSub, Int.reduceMul, Nat.reduceMul, Nat.reduceSub, Nat.reduceLeDiff]; rfl) ?_
    refine slitS_ok C F (l := r.head) (T := T) ⟨xv, rfl, hxh.frm f0w fun _ _ h => h⟩ hp.head fun w2 g2 => ?_
    have hr : litS r.head = atomS r.head.name (r.head.args.map tkOf) := if_pos hp.hk
    rw [hr]
    have hal := atomS_len hp.head
    have hB2 := hB.frm g2 fun _ _ h => h
    have hlv := hB2.lenV
    have hjl := joinN_len hp.lits
    have ffin := f0w.tr g2
    generalize hA : atomS r.head.name (r.head.args.map tkOf) = A at *
    by_cases h0 : r.body.length = 0
    · have hnil : r.body = [] := List.length_eq_zero_iff.1 h0
      have hrs : ruleS r = A ++ [46] := by unfold ruleS; rw [hA, hnil]; simp [bodyS]
      rw [hrs] at h
      have hadd : strS BinOp.add A [46] = some (.str (A ++ [46])) := by simp only [strS, List.length_cons, List.length_nil]; rw [if_pos (by omega)]
      rw [h0] at hlv
      refine WS_run 1000 (by simp only [go_sem, eRun_exit, Nat.reduceAdd, Nat.reduceLT, Nat.reduceEqDiff, reduceIte, reduceCtorEq, Int.reduceBEq, Int.reduceBNe, Int.reduceLT, Int.reduceLE, Int.reduceGT, Int.reduceGE, Int.reduceEq, Int.reduceAdd, Int.reduceSub, Int.reduceMul, Nat.reduceMul, Nat.reduceSub, Nat.reduceLeDiff, k_syntax_Print_p4, f3, hlv, hadd]; rfl) ?_
      refine WS_ret ⟨_, by simp only [go_sem, eRun_exit, Nat.reduceAdd, Nat.reduceLT, Nat.reduceEqDiff, reduceIte, reduceCtorEq, Int.reduceBEq, Int.reduceBNe, Int.reduceLT, Int.reduceLE, Int.reduceGT, Int.reduceGE, Int.reduceEq, Int.reduceAdd, Int.reduceSub, Int.reduceMul, Nat.reduceMul, Nat.reduceSub, Nat.reduceLeDiff, k_syntax_Print]; rfl, ?_⟩
      exact h w2 ffin
    · obtain ⟨b0, bs, hbs⟩ : ∃ b bs, r.body = b :: bs := by
        cases hh : r.body with
        | nil => rw [hh] at h0; simp at h0
        | cons b bs => exact ⟨b, bs, rfl⟩
      obtain ⟨jt, hjt⟩ : ∃ jt, jt = [32, 58, 45, 32] ++ joinN (r.body.map litS) := ⟨_, rfl⟩
      have hrs : ruleS r = A ++ jt ++ [46] := by unfold ruleS; rw [hA, hjt, hbs]; simp [bodyS]
      rw [hrs] at h
      have h0' : 0 < r.body.length := by omega
      have hjtl : jt.length ≤ 200000000000000 := by rw [hjt]; simp only [List.length_append, List.length_cons, List.length_nil]; omega
      refine WS_run 1000 (by simp only [go_sem, eRun_exit, Nat.reduceAdd, Nat.reduceLT, Nat.reduceEqDiff, reduceIte, reduceCtorEq, Int.reduceBEq, Int.reduceBNe, Int.reduceLT, Int.reduceLE, Int.reduceGT, Int.reduceGE, Int.reduceEq, Int.reduceAdd, Int.reduceSub, Int.reduceMul, Nat.reduceMul, Nat.reduceSub, Nat.reduceLeDiff, k_syntax_Print_p4, k_syntax_Print_p3, f3, hlv, h0']; rfl) ?_
      refine WS_call (by simp only [go_sem, eRun_exit, Nat.reduceAdd, Nat.reduceLT, Nat.reduceEqDiff, reduceIte, reduceCtorEq, Int.reduceBEq, Int.reduceBNe, Int.reduceLT, Int.reduceLE, Int.reduceGT, Int.reduceGE, Int.reduceEq, Int.reduceAdd, Int.reduceSub, Int.reduceMul, Nat.reduceMul, Nat.reduceSub, Nat.reduceLeDiff]) (by simp only [go_sem, eRun_exit, Nat.reduceAdd, Nat.reduceLT, Nat.reduceEqDiff, reduceIte, reduceCtorEq, Int.reduceBEq, Int.reduceBNe, Int.reduceLT, Int.reduceLE, Int.reduceGT, Int.reduceGE, Int.reduceEq, Int.reduceAdd, Int.reduceSub, Int.reduceMul, Nat.reduceMul, Nat.reduceSub, Nat.reduceLeDiff]; rfl) ?_
      refine ⟨_, _, J S w2 v (r.body.map litS) (by rw [List.length_map]; exact hB2.rd) (by rw [List.length_map]; omega) (by omega), ?_⟩
      have hadd1 : strS BinOp.add [32, 58, 45, 32] (joinN (r.body.map litS)) = some (.str jt) := by rw [hjt]; simp only [strS, List.length_cons, List.length_nil]; rw [if_pos (by omega)]
      have hadd2 : strS BinOp.add A jt = some (.str (A ++ jt)) := by simp only [strS]; rw [if_pos (by omega)]
      have hadd3 : strS BinOp.add (A ++ jt) [46] = some (.str (A ++ jt ++ [46])) := by simp only [strS, List.length_append, List.length_cons, List.length_nil]; rw [if_pos (by omega)]
      refine WS_run 1000 (by simp only [go_sem, eRun_exit, Nat.reduceAdd, Nat.reduceLT, Nat.reduceEqDiff, reduceIte, reduceCtorEq, Int.reduceBEq, Int.reduceBNe, Int.reduceLT, Int.reduceLE, Int.reduceGT, Int.reduceGE, Int.reduceEq, Int.reduceAdd, Int.reduceSub, Int.reduceMul, Nat.reduceMul, Nat.reduceSub, Nat.reduceLeDiff, hadd1, hadd2, hadd3]; rfl) ?_
      refine WS_ret ⟨_, by simp only [go_sem, eRun_exit, Nat.reduceAdd, Nat.reduceLT, Nat.reduceEqDiff, reduceIte, reduceCtorEq, Int.reduceBEq, Int.reduceBNe, Int.reduceLT, Int.reduceLE, Int.reduceGT, Int.reduceGE, Int.reduceEq, Int.reduceAdd, Int.reduceSub, Int.reduceMul, Nat.reduceMul, Nat.reduceSub, Nat.reduceLeDiff, k_syntax_Print]; rfl, ?_⟩
      exact h w2 ffin
end Go.Proofs.YtpbdojjfokelaaaDoor
set_option linter.unusedVariables false
set_option maxRecDepth 100000
namespace Go.Proofs.YtpbdojjfokelaaaDoor
open Go.AE Go.RowKit Delphi
theorem codesS : Codes (tabS Tryd.prog) := codesOf rfl
theorem formatsS : Val.Formats (tabS Tryd.prog) := fun n aw h1 h2 => .prim (by
  show formatI [.int .i64 n, .int .i64 10] aw = some (.str (fmtI n), aw)
  simp only [formatI]
  rw [if_pos ⟨h1, h2⟩])
theorem parsesS : Parses (tabS Tryd.prog) := fun s aw h1 h2 => .prim (by
  show parseI [.str s, .int .i64 10, .int .i64 64] aw = some (.tuple [.int .i64 (numV s), .niliface], aw)
  simp only [parseI]
  rw [if_pos ⟨h1, h2⟩])
theorem joinsS : Joins (tabS Tryd.prog) := fun T w v l hr hl hj => .prim (by
  show joinI [v, .str [44, 32]] w = some (.str (joinN l), w)
  have hfit : joinFit v = true := by
    rcases hr.inv with ⟨rfl, _⟩ | ⟨b, o, c, rfl, hB⟩
    · rfl
    · have hc := hB.fit
      cases c with
      | known k => exact Nat.ble_eq_true_of_le hc
      | upTo z => rfl
  have hel := hr.elems
  simp only [joinI, hfit, hel, strsV_map]
  rw [if_pos ⟨hj, hl⟩])
theorem extS : ExtIdx (tabS Tryd.prog) := fun s c aw hc => by
  show (match extIdx [.str s, .int .u8 (Int.ofNat c)] with | some v => some (v, aw) | Option.none => Option.none) = some (idxV (idxN s c), aw)
  have hb : Nat.blt c 256 = true := by rw [Nat.blt_eq]; exact hc
  simp only [extIdx, hb]
end Go.Proofs.YtpbdojjfokelaaaDoor
set_option linter.unusedVariables false
set_option maxRecDepth 10000
set_option linter.unusedSimpArgs false
namespace Go.Proofs.YtpbdojjfokelaaaDoor
open Go.AE Delphi Val
variable {tab : Tab}
def bgnT : List Nat := [112, 40, 88, 41, 32, 58, 45, 32, 113, 40, 88, 44, 32, 51, 41, 44, 32, 33, 114, 40, 88, 41, 44, 32, 88, 32, 33, 61, 32, 97, 46]
def bgnR : Rl := ⟨⟨1, [112], [⟨1, [88], 0⟩]⟩, [⟨1, [113], [⟨1, [88], 0⟩, ⟨3, [], 3⟩]⟩, ⟨2, [114], [⟨1, [88], 0⟩]⟩, ⟨4, [], [⟨1, [88], 0⟩, ⟨2, [97], 0⟩]⟩]⟩
theorem bgn_read : rProgram bgnT = ([bgnR], 0) := by decide +kernel
theorem bgn_fact : rFact [113, 40, 97, 44, 32, 45, 51, 41, 46] = (([113], [⟨2, [97], 0⟩, ⟨3, [], -3⟩]), 0) := by decide +kernel
theorem bgn_no : (rFact [113, 40, 88, 41]).2 = 4 := by decide +kernel
theorem fmt3 : fmtI 3 = [51] := decN_small (n := 3) (by omega)
theorem bgn_print : ruleS bgnR = bgnT := by
  have h : prT (tkOf ⟨3, [], 3⟩) = [51] := fmt3
  have h2 : litS ⟨1, [113], [⟨1, [88], 0⟩, ⟨3, [], 3⟩]⟩ = [113, 40, 88, 44, 32, 51, 41] := by
    show [113] ++ [40] ++ (prT (tkOf ⟨1, [88], 0⟩) ++ [prT (tkOf ⟨3, [], 3⟩)].flatMap fun u => [44, 32] ++ u) ++ [41] = _
    rw [h]; rfl
  unfold ruleS bgnR
  simp only [List.map_cons, List.map_nil, h2]
  rfl
theorem tkPr_name {t : Tm} (h3 : t.kind ≠ 3) (h0 : t.num = 0) (hl : t.name.length ≤ 1000000) : TkPr (tkOf t) := by
  refine ⟨by show t.num.natAbs ≤ _; rw [h0]; simp, ?_⟩
  have : prT (tkOf t) = t.name := by unfold prT; rw [if_neg (by show ¬ (t.kind : Int) = 3; omega)]; rfl
  rw [this]; omega
theorem tkPr_num {t : Tm} (h3 : t.kind = 3) (hn : t.name = []) (h1 : -2147483648 ≤ t.num) (h2 : t.num ≤ 2147483648) : TkPr (tkOf t) := by
  refine tkPr ?_ (by show t.name.length ≤ _; rw [hn]; simp)
  have hk : (tkOf t).k = 3 := by show (t.kind : Int) = 3; omega
  unfold tkMay
  rw [if_pos hk]
  have hs : (tkOf t).s = [] := hn
  have hnn : (tkOf t).n = t.num := rfl
  rw [hs, hnn, decide_eq_true h1, decide_eq_true h2]; rfl
theorem bgn_ok : RlP bgnR := by
  have hX : TkPr (tkOf ⟨1, [88], 0⟩) := tkPr_name (by simp) rfl (by simp)
  have hA : TkPr (tkOf ⟨2, [97], 0⟩) := tkPr_name (by simp) rfl (by simp)
  have h3 : TkPr (tkOf ⟨3, [], 3⟩) := tkPr_num rfl rfl (by simp) (by simp)
  have hl : ∀ {l : Lt}, (l.kind = 1 ∨ l.kind = 2 ∨ (3 ≤ l.kind ∧ l.kind ≤ 6 ∧ l.args.length = 2)) → l.name.length ≤ 1000 → l.args.length ≤ 1000 → (∀ t ∈ l.args, t = ⟨1, [88], 0⟩ ∨ t = ⟨2, [97], 0⟩ ∨ t = ⟨3, [], 3⟩) → LtP l := by
    intro l h1 h2 h4 h5
    refine ⟨h1, h2, h4, fun t ht => ?_⟩
    rcases h5 t ht with rfl | rfl | rfl
    · exact hX
    · exact hA
    · exact h3
  refine ⟨hl (.inl rfl) (by decide) (by decide) (by decide), rfl, by decide, ?_⟩
  intro l h
  have h : l ∈ [(⟨1, [113], [⟨1, [88], 0⟩, ⟨3, [], 3⟩]⟩ : Lt), ⟨2, [114], [⟨1, [88], 0⟩]⟩, ⟨4, [], [⟨1, [88], 0⟩, ⟨2, [97], 0⟩]⟩] := h
  simp only [List.mem_cons, List.not_mem_nil, or_false] at h
  rcases h with rfl | rfl | rfl
  · exact hl (.inl rfl) (by decide) (by decide) (by decide)
  · exact hl (.inr (.inl rfl)) (by decide) (by decide) (by decide)
  · exact hl (.inr (.inr ⟨by decide, by decide, rfl⟩)) (by decide) (by decide) (by decide)
theorem begun8_ok (C : Codes tab) (F : Formats tab) (PI : Parses tab) (J : Joins tab) (E : ExtIdx tab) {aw : AW} {K : V → AW → Prop} (h : ∀ w, Frm (fun _ => False) aw w → K (.bool true) w) : WF tab n_law8_begun [] aw K := by
  refine WF_of C.c_law8_begun rfl ?_
  refine WS_run 1000 (by simp only [go_sem, eRun_exit, Nat.reduceAdd, Nat.reduceLT, Nat.reduceEqDiff, reduceIte, reduceCtorEq, Int.reduceBEq, Int.reduceBNe, Int.reduceLT, Int.reduceLE, Int.reduceGT, Int.reduceGE, Int.reduceEq, Int.reduceAdd, Int.reduceSub, Int.reduceMul, Nat.reduceMul, Nat.reduceSub, Nat.reduceLeDiff, k_law8_begun, k_law8_begun_p3]; rfl) ?_
  refine WS_call (by simp only [go_sem, eRun_exit, Nat.reduceAdd, Nat.reduceLT, Nat.reduceEqDiff, reduceIte, reduceCtorEq, Int.reduceBEq, Int.reduceBNe, Int.reduceLT, Int.reduceLE, Int.reduceGT, Int.reduceGE, Int.reduceEq, Int.reduceAdd, Int.reduceSub, Int.reduceMul, Nat.reduceMul, Nat.reduceSub, Nat.reduceLeDiff]) (by simp only [go_sem, eRun_exit, Nat.reduceAdd, Nat.reduceLT, Nat.reduceEqDiff, reduceIte, reduceCtorEq, Int.reduceBEq, Int.reduceBNe, Int.reduceLT, Int.reduceLE, Int.reduceGT, Int.reduceGE, Int.reduceEq, Int.reduceAdd, Int.reduceSub, Int.reduceMul, Nat.reduceMul, Nat.reduceSub, Nat.reduceLeDiff]; rfl) ?_
  refine sprogram_ok C PI E (s := bgnT) (by decide) (by decide) fun w1 v T h1 h2 h3 => ?_
  rw [bgn_read] at h1 ⊢
  refine WS_run 1000 (by simp only [go_sem, eRun_exit, Nat.reduceAdd, Nat.reduceLT, Nat.reduceEqDiff, reduceIte, reduceCtorEq, Int.reduceBEq, Int.reduceBNe, Int.reduceLT, Int.reduceLE, Int.reduceGT, Int.reduceGE, Int.reduceEq, Int.reduceAdd, Int.reduceSub, Int.reduceMul, Nat.reduceMul, Nat.reduceSub, Nat.reduceLeDiff, k_law8_begun_p2]; rfl) ?_
  refine WS_call (by simp only [go_sem, eRun_exit, Nat.reduceAdd, Nat.reduceLT, Nat.reduceEqDiff, reduceIte, reduceCtorEq, Int.reduceBEq, Int.reduceBNe, Int.reduceLT, Int.reduceLE, Int.reduceGT, Int.reduceGE, Int.reduceEq, Int.reduceAdd, Int.reduceSub, Int.reduceMul, Nat.reduceMul, Nat.reduceSub, Nat.reduceLeDiff]) (by simp only [go_sem, eRun_exit, Nat.reduceAdd, Nat.reduceLT, Nat.reduceEqDiff, reduceIte, reduceCtorEq, Int.reduceBEq, Int.reduceBNe, Int.reduceLT, Int.reduceLE, Int.reduceGT, Int.reduceGE, Int.reduceEq, Int.reduceAdd, Int.reduceSub, Int.reduceMul, Nat.reduceMul, Nat.reduceSub, Nat.reduceLeDiff]; rfl) ?_
  refine sfact_ok C PI E (s := [113, 40, 97, 44, 32, 45, 51, 41, 46]) (by decide) (by decide) fun w2 xs T2 g1 g2 g3 => ?_
  rw [bgn_fact] at g1 ⊢
  obtain ⟨xl, xo⟩ := g1.one
  obtain ⟨av, rfl, hav⟩ := g1
  obtain ⟨w3, s3, c3, r3, n3⟩ := boxed w2 (zs := [V.str [], V.nilslice]) (vs := [.str [113], av]) rfl xo
  refine WS_run 1000 (by simp only [go_sem, eRun_exit, Nat.reduceAdd, Nat.reduceLT, Nat.reduceEqDiff, reduceIte, reduceCtorEq, Int.reduceBEq, Int.reduceBNe, Int.reduceLT, Int.reduceLE, Int.reduceGT, Int.reduceGE, Int.reduceEq, Int.reduceAdd, Int.reduceSub, Int.reduceMul, Nat.reduceMul, Nat.reduceSub, Nat.reduceLeDiff, xl, s3, k_law8_begun_p1]; rfl) ?_
  refine WS_call (by simp only [go_sem, eRun_exit, Nat.reduceAdd, Nat.reduceLT, Nat.reduceEqDiff, reduceIte, reduceCtorEq, Int.reduceBEq, Int.reduceBNe, Int.reduceLT, Int.reduceLE, Int.reduceGT, Int.reduceGE, Int.reduceEq, Int.reduceAdd, Int.reduceSub, Int.reduceMul, Nat.reduceMul, Nat.reduceSub, Nat.reduceLeDiff]) (by simp only [go_sem, eRun_exit, Nat.reduceAdd, Nat.reduceLT, Nat.reduceEqDiff, reduceIte, reduceCtorEq, Int.reduceBEq, Int.reduceBNe, Int.reduceLT, Int.reduceLE, Int.reduceGT, Int.reduceGE, Int.reduceEq, Int.reduceAdd, Int.reduceSub, Int.reduceMul, Nat.reduceMul, Nat.reduceSub, Nat.reduceLeDiff]; rfl) ?_
  refine sfact_ok C PI E (s := [113, 40, 88, 41]) (by decide) (by decide) fun w4 ys T4 k1 k2 k3 => ?_
  rw [bgn_no]
  obtain ⟨yl, yo⟩ := k1.one
  obtain ⟨w5, s5, c5, r5, n5⟩ := boxed w4 (zs := [V.str [], V.nilslice]) (vs := ys) (by rw [yl]; rfl) yo
  have f15 : Frm (fun _ => False) w1 w5 := (((g2.tr r3).tr k2).tr r5)
  have hrl := h1.frm (fun _ _ h => h.frm f15 fun _ _ h => h) f15 fun _ _ h => h
  obtain ⟨b, o, c, xs, rfl, la, hR⟩ := rls_at3 hrl (i := 0) (t := bgnR) rfl
  rw [Nat.zero_mul, Nat.add_zero] at la
  have hlen1 : ([bgnR] : List Rl).length = 1 := rfl
  rw [hlen1]
  refine WS_run 1000 (by simp only [go_sem, eRun_exit, Nat.reduceAdd, Nat.reduceLT, Nat.reduceEqDiff, reduceIte, reduceCtorEq, Int.reduceBEq, Int.reduceBNe, Int.reduceLT, Int.reduceLE, Int.reduceGT, Int.reduceGE, Int.reduceEq, Int.reduceAdd, Int.reduceSub, Int.reduceMul, Nat.reduceMul, Nat.reduceSub, Nat.reduceLeDiff, yl, s5, k_law8_begun_p0, la]; rfl) ?_
  refine WS_call (by simp only [go_sem, eRun_exit, Nat.reduceAdd, Nat.reduceLT, Nat.reduceEqDiff, reduceIte, reduceCtorEq, Int.reduceBEq, Int.reduceBNe, Int.reduceLT, Int.reduceLE, Int.reduceGT, Int.reduceGE, Int.reduceEq, Int.reduceAdd, Int.reduceSub, Int.reduceMul, Nat.reduceMul, Nat.reduceSub, Nat.reduceLeDiff]) (by simp only [go_sem, eRun_exit, Nat.reduceAdd, Nat.reduceLT, Nat.reduceEqDiff, reduceIte, reduceCtorEq, Int.reduceBEq, Int.reduceBNe, Int.reduceLT, Int.reduceLE, Int.reduceGT, Int.reduceGE, Int.reduceEq, Int.reduceAdd, Int.reduceSub, Int.reduceMul, Nat.reduceMul, Nat.reduceSub, Nat.reduceLeDiff]; rfl) ?_
  refine sprint_ok C F J hR bgn_ok fun w6 g6 => ?_
  rw [bgn_print]
  have heq : strS BinOp.eql bgnT [112, 40, 88, 41, 32, 58, 45, 32, 113, 40, 88, 44, 32, 51, 41, 44, 32, 33, 114, 40, 88, 41, 44, 32, 88, 32, 33, 61, 32, 97, 46] = some (.bool true) := (by simp [strS, eqLd] : strS BinOp.eql bgnT bgnT = some (.bool true))
  have f36 : Frm (fun _ => False) w3 w6 := (k2.tr r5).tr g6
  have c6 := c3.frm f36 fun h => h
  have l1 : w6.load w2.next 1 1 = some [av] := CB.ld c6 1 1 _ rfl
  have hav6 := (hav.frm r3 fun _ _ h => h).frm f36 fun _ _ h => h
  have hlv : lenV av = some 2 := hav6.lenV
  rcases hav6.inv with ⟨_, q2, _⟩ | ⟨b2, o2, c2, rfl, hB⟩
  · cases q2
  have lb : w6.load b2 (o2 + 5) 1 = some [.int .i64 (-3)] := hB.cell (i := 5) (by show 5 < 2 * 3; omega) rfl
  refine WS_run 1000 (by simp only [go_sem, eRun_exit, Nat.reduceAdd, Nat.reduceLT, Nat.reduceEqDiff, reduceIte, reduceCtorEq, Int.reduceBEq, Int.reduceBNe, Int.reduceLT, Int.reduceLE, Int.reduceGT, Int.reduceGE, Int.reduceEq, Int.reduceAdd, Int.reduceSub, Int.reduceMul, Nat.reduceMul, Nat.reduceSub, Nat.reduceLeDiff, heq, l1, hlv, lb, Nat.add_assoc, List.length_cons, List.length_nil]; rfl) ?_
  refine WS_ret ⟨_, by simp only [go_sem, eRun_exit, Nat.reduceAdd, Nat.reduceLT, Nat.reduceEqDiff, reduceIte, reduceCtorEq, Int.reduceBEq, Int.reduceBNe, Int.reduceLT, Int.reduceLE, Int.reduceGT, Int.reduceGE, Int.reduceEq, Int.reduceAdd, Int.reduceSub, Int.reduceMul, Nat.reduceMul, Nat.reduceSub, Nat.reduceLeDiff, k_law8_begun]; rfl, ?_⟩
  exact h w6 (((h2.tr g2).tr r3).tr f36)
end Go.Proofs.YtpbdojjfokelaaaDoor
set_option linter.unusedVariables false
set_option linter.unusedSimpArgs false
namespace Delphi
theorem blk_word (u : List Nat) (h : (lexWord u).2 ≠ 0) : blk false u = 0 := by
  cases u with
  | nil => rfl
  | cons c t =>
    have hb : ∀ n, n ∈ [32, 9, 10, 13, 37] → c ≠ n := by
      intro n hn hc
      subst hc
      simp only [List.mem_cons, List.not_mem_nil, or_false] at hn
      rcases hn with rfl | rfl | rfl | rfl | rfl <;> exact absurd rfl h
    simp [blk, isBlank, hb 32 (by simp), hb 9 (by simp), hb 10 (by simp), hb 13 (by simp), hb 37 (by simp)]
end Delphi
set_option linter.unusedVariables false
set_option linter.unusedSimpArgs false
namespace Delphi
def Gap (g : List Nat) : Prop := ∀ (r : List Nat), blk false (g ++ r) = g.length + blk false r
theorem Gap.scan {g : List Nat} (h : Gap g) (n : Nat) (r : List Nat) : scan n (g ++ r) = scan (n + g.length) r := by
  have := scan_skip n (g ++ r) g.length (by rw [List.drop_left]; exact h r)
  rw [List.drop_left] at this
  exact this
theorem gap_nil : Gap [] := fun r => by simp
theorem gap_one {c : Nat} (h : isBlank c = true) : Gap [c] := fun r => by simp [blk, h]; omega
theorem Gap.app {g g' : List Nat} (h : Gap g) (h' : Gap g') : Gap (g ++ g') := fun r => by rw [List.append_assoc, h, h', List.length_append]; omega
structure Tok where
  gap : List Nat
  kind : Nat
  text : List Nat
def Tok.wd (t : Tok) : Wd := ⟨t.kind, t.text, 0⟩
def sW (w : Wd) : Wd := ⟨w.kind, w.text, 0⟩
def laidT : List Tok → List Nat
  | [] => []
  | t :: l => t.gap ++ (t.text ++ laidT l)
def LxAll : List Tok → List Nat → Prop
  | [], _ => True
  | t :: l, r => Gap t.gap ∧ t.text ≠ [] ∧ (t.kind ≠ 4 → t.text.length ≤ 16) ∧ lexWord (t.text ++ (laidT l ++ r)) = (t.kind, t.text.length) ∧ LxAll l r
theorem laidT_app : ∀ (l m : List Tok), laidT (l ++ m) = laidT l ++ laidT m
  | [], m => rfl
  | t :: l, m => by simp only [List.cons_append, laidT, laidT_app l m, List.append_assoc]
theorem LxAll.app : ∀ {l m : List Tok} {r : List Nat}, LxAll l (laidT m ++ r) → LxAll m r → LxAll (l ++ m) r
  | [], m, r, _, h => h
  | t :: l, m, r, h, h' => by
    obtain ⟨h1, h2, h3, h4, h5⟩ := h
    refine ⟨h1, h2, h3, ?_, LxAll.app h5 h'⟩
    have e : laidT (l ++ m) ++ r = laidT l ++ (laidT m ++ r) := by rw [laidT_app, List.append_assoc]
    show lexWord (t.text ++ (laidT (l ++ m) ++ r)) = _
    rw [e]; exact h4
theorem scan_word {k n : Nat} {s r : List Nat} (h0 : s ≠ []) (h16 : k ≠ 4 → s.length ≤ 16) (hl : lexWord (s ++ r) = (k, s.length)) : scan n (s ++ r) = (⟨k, s, n⟩ :: (scan (n + s.length) r).1, (scan (n + s.length) r).2) := by
  have hpos : 0 < s.length := List.length_pos_iff.2 h0
  have hb : blk false (s ++ r) = 0 := blk_word _ (by rw [hl]; show s.length ≠ 0; omega)
  obtain ⟨c, t, hct⟩ : ∃ c t, s ++ r = c :: t := by
    cases hq : s ++ r with
    | nil => simp at hq; exact absurd hq.1 h0
    | cons c t => exact ⟨c, t, rfl⟩
  rw [scan_eq, hb, List.drop_zero, hct]
  simp only
  rw [← hct, hl, if_neg]
  · simp only [Nat.add_zero, List.take_left, List.drop_left]
  · rintro (hh | hh)
    · exact absurd hh (by show s.length ≠ 0; omega)
    · exact absurd hh.2 (by have := h16 hh.1; show ¬ 16 < s.length; omega)
theorem scan_laid : ∀ (l : List Tok) (n : Nat) (r : List Nat), LxAll l r → ∃ ws m, ws.map sW = l.map Tok.wd ∧ scan n (laidT l ++ r) = (ws ++ (scan m r).1, (scan m r).2)
  | [], n, r, _ => ⟨[], n, rfl, rfl⟩
  | t :: l, n, r, h => by
    obtain ⟨h1, h2, h3, h4, h5⟩ := h
    obtain ⟨ws, m, h6, h7⟩ := scan_laid l (n + t.gap.length + t.text.length) r h5
    refine ⟨⟨t.kind, t.text, n + t.gap.length⟩ :: ws, m, ?_, ?_⟩
    · rw [List.map_cons, List.map_cons, h6]; rfl
    · have e : laidT (t :: l) ++ r = t.gap ++ (t.text ++ (laidT l ++ r)) := by simp only [laidT, List.append_assoc]
      rw [e, h1.scan, scan_word h2 h3 h4, h7]
      rfl
def Ends (p : Nat → Bool) (r : List Nat) : Prop := ∀ x, r.head? = some x → p x = false
theorem takeWhile_ends {p : Nat → Bool} {s r : List Nat} (hs : ∀ x ∈ s, p x = true) (hr : Ends p r) : (s ++ r).takeWhile p = s := by
  induction s with
  | nil =>
    cases r with
    | nil => rfl
    | cons x r => simp [hr x rfl]
  | cons y s ih => rw [List.cons_append, List.takeWhile_cons_of_pos (hs y (by simp)), ih fun z hz => hs z (by simp [hz])]
def nameT (s : List Nat) : Prop := ∃ c t, s = c :: t ∧ isSmall c = true ∧ (∀ x ∈ s, isNamed x = true) ∧ s.length ≤ 16
def varT (s : List Nat) : Prop := ∃ c t, s = c :: t ∧ isGreat c = true ∧ (∀ x ∈ s, isVarC x = true) ∧ s.length ≤ 16
def decT (s : List Nat) : Prop := s.length ≤ 16 ∧ ((s = [48]) ∨ ∃ m c t, s = m ++ c :: t ∧ (m = [] ∨ m = [45]) ∧ isDigit c = true ∧ c ≠ 48 ∧ ∀ x ∈ t, isDigit x = true)
theorem lx_name {s r : List Nat} (h : nameT s) (hr : Ends isNamed r) : lexWord (s ++ r) = (1, s.length) := by
  obtain ⟨c, t, rfl, h1, h2, _⟩ := h
  have := takeWhile_ends h2 hr
  rw [List.cons_append] at this ⊢
  simp only [lexWord, h1, if_true, this]
theorem lx_sign {s r : List Nat} (h : s ∈ [[58, 45], [33, 61], [60, 61], [40], [41], [44], [46], [61]]) : lexWord (s ++ r) = (4, s.length) := by
  simp only [List.mem_cons, List.not_mem_nil, or_false] at h
  rcases h with rfl | rfl | rfl | rfl | rfl | rfl | rfl | rfl <;> rfl
end Delphi
set_option linter.unusedVariables false
set_option linter.unusedSimpArgs false
namespace Delphi
theorem sW_at (ws : List Wd) (k : Nat) : (ws.map sW)[k]? = (ws[k]?).map sW := List.getElem?_map ..
theorem rSign_sW (ws : List Wd) (k : Nat) (s : List Nat) : rSign (ws.map sW) k s = rSign ws k s := by
  unfold rSign; rw [sW_at]; cases ws[k]? <;> rfl
theorem rNext_sW (ws : List Wd) (k e : Nat) : rNext (ws.map sW) k e = (rNext ws k e).map sW := by
  unfold rNext; split
  · exact sW_at ws k
  · rfl
theorem rTerm_sW (ws : List Wd) (k e : Nat) : rTerm (ws.map sW) k e = rTerm ws k e := by
  unfold rTerm; rw [rNext_sW]; cases rNext ws k e <;> rfl
theorem rCmpAt_sW (ws : List Wd) (k : Nat) : rCmpAt (ws.map sW) k = rCmpAt ws k := by
  unfold rCmpAt; rw [sW_at]; cases ws[k]? <;> rfl
theorem rKind_sW (ws : List Wd) (k : Nat) : rKind (ws.map sW) k = rKind ws k := by
  unfold rKind; rw [sW_at]; cases ws[k]? <;> rfl
theorem rEat_sW (ws : List Wd) (s : List Nat) (k e : Nat) : rEat (ws.map sW) s k e = rEat ws s k e := by
  unfold rEat; rw [rSign_sW]
theorem rArgs_sW (ws : List Wd) : ∀ (n : Nat) (args : List Tm) (k e : Nat), rArgs (ws.map sW) n args k e = rArgs ws n args k e
  | 0, _, _, _ => rfl
  | n + 1, args, k, e => by simp only [rArgs, rTerm_sW, rSign_sW, rArgs_sW ws n]
theorem rAtom_sW (ws : List Wd) (k e : Nat) : rAtom (ws.map sW) k e = rAtom ws k e := by
  unfold rAtom
  rw [rNext_sW, rSign_sW, rArgs_sW, List.length_map]
  simp only [rEat_sW]
  cases rNext ws k e <;> rfl
theorem rLit_sW (ws : List Wd) (k e : Nat) : rLit (ws.map sW) k e = rLit ws k e := by
  simp only [rLit, rSign_sW, rAtom_sW, rKind_sW, rCmpAt_sW, rTerm_sW]
theorem rBody_sW (ws : List Wd) : ∀ (n : Nat) (l : List Lt) (k e : Nat), rBody (ws.map sW) n l k e = rBody ws n l k e
  | 0, _, _, _ => rfl
  | n + 1, l, k, e => by simp only [rBody, rLit_sW, rSign_sW, rBody_sW ws n]
theorem rClause_sW (ws : List Wd) (k e : Nat) : rClause (ws.map sW) k e = rClause ws k e := by
  simp only [rClause, rAtom_sW, rSign_sW, rBody_sW, rEat_sW, List.length_map]
theorem rRules_sW (ws : List Wd) : ∀ (n : Nat) (l : List Rl) (k e : Nat), rRules (ws.map sW) n l k e = rRules ws n l k e
  | 0, _, _, _ => rfl
  | n + 1, l, k, e => by simp only [rRules, rClause_sW, rRules_sW ws n, List.length_map]
def rProg (ws : List Wd) (wh : Bool) : List Rl × Nat :=
  let r := rRules ws (ws.length + 1) [] 0 0
  let e := rBad r.2.2 (if wh then 0 else 4)
  if e = 0 then (r.1, 0) else ([], e)
theorem rProgram_ws {s : List Nat} (h : s.length ≤ 4000) : rProgram s = rProg (scan 0 s).1 (scan 0 s).2 := by
  unfold rProgram; rw [if_neg (by omega)]; rfl
theorem rProg_sW (ws : List Wd) (wh : Bool) : rProg (ws.map sW) wh = rProg ws wh := by
  unfold rProg; rw [rRules_sW, List.length_map]
end Delphi
set_option linter.unusedVariables false
set_option linter.unusedSimpArgs false
namespace Delphi
variable (fm : Int → List Nat)
def At (ws : List Wd) (k : Nat) (l : List Wd) : Prop := l <+: ws.drop k
theorem At.head {ws l : List Wd} {k : Nat} {w : Wd} (h : At ws k (w :: l)) : ws[k]? = some w ∧ At ws (k + 1) l := by
  obtain ⟨r, hr⟩ := h
  have hlt : k < ws.length := by
    have := congrArg List.length hr
    simp at this; omega
  rw [List.drop_eq_getElem_cons hlt] at hr
  rw [List.cons_append] at hr
  injection hr with h1 h2
  exact ⟨by rw [List.getElem?_eq_getElem hlt, h1], r, h2⟩
theorem At.app {ws l m : List Wd} {k : Nat} (h : At ws k (l ++ m)) : At ws k l ∧ At ws (k + l.length) m := by
  obtain ⟨r, hr⟩ := h
  refine ⟨⟨m ++ r, by rw [← hr, List.append_assoc]⟩, r, ?_⟩
  have := congrArg (List.drop l.length) hr
  rw [List.append_assoc, List.drop_left, List.drop_drop] at this
  exact this
theorem At.le {ws l : List Wd} {k : Nat} (h : At ws k l) (hk : k ≤ ws.length) : k + l.length ≤ ws.length := by
  have := h.length_le
  rw [List.length_drop] at this; omega
def sgn (s : List Nat) : Wd := ⟨4, s, 0⟩
def tokT (t : Tm) : Wd := if t.kind = 1 then ⟨2, t.name, 0⟩ else if t.kind = 2 then ⟨1, t.name, 0⟩ else ⟨3, fm t.num, 0⟩
def argsW : List Tm → List Wd
  | [] => []
  | t :: ts => tokT fm t :: ts.flatMap fun u => [sgn [44], tokT fm u]
def atomW (nm : List Nat) (args : List Tm) : List Wd := match args with
  | [] => [⟨1, nm, 0⟩]
  | args => ⟨1, nm, 0⟩ :: sgn [40] :: (argsW fm args ++ [sgn [41]])
def cmpT (k : Nat) : List Nat := if k = 3 then [61] else if k = 4 then [33, 61] else if k = 5 then [60] else if k = 6 then [60, 61] else []
def litW (l : Lt) : List Wd :=
  if l.kind = 1 then atomW fm l.name l.args
  else if l.kind = 2 then sgn [33] :: atomW fm l.name l.args
  else match l.args with
    | [a, b] => [tokT fm a, sgn (cmpT l.kind), tokT fm b]
    | _ => []
def litsW : List Lt → List Wd
  | [] => []
  | b :: bs => litW fm b ++ bs.flatMap fun u => sgn [44] :: litW fm u
def bodyW : List Lt → List Wd
  | [] => []
  | b :: bs => sgn [58, 45] :: litsW fm (b :: bs)
def ruleW (r : Rl) : List Wd := atomW fm r.head.name r.head.args ++ (bodyW fm r.body ++ [sgn [46]])
def FmOk : Prop := ∀ n : Int, n.natAbs ≤ 2147483648 → rNum (fm n) = n.natAbs ∧ ((fm n).head? = some 45 ↔ n < 0)
def TmW (t : Tm) : Prop := (t.kind = 1 ∧ t.num = 0) ∨ (t.kind = 2 ∧ t.num = 0) ∨ (t.kind = 3 ∧ t.name = [] ∧ t.num.natAbs ≤ 2147483648)
structure LtW (l : Lt) : Prop where
  kind : (l.kind = 1 ∨ l.kind = 2) ∨ (3 ≤ l.kind ∧ l.kind ≤ 6 ∧ l.args.length = 2 ∧ l.name = [])
  tm : ∀ t ∈ l.args, TmW t
variable {fm}
theorem tokT_kind {t : Tm} (h : TmW t) : 1 ≤ (tokT fm t).kind ∧ (tokT fm t).kind ≤ 3 := by
  unfold tokT
  split
  · simp
  · split <;> simp
theorem rTerm_at (hF : FmOk fm) {ws : List Wd} {k : Nat} {t : Tm} (ht : TmW t) (h : ws[k]? = some (tokT fm t)) : rTerm ws k 0 = (t, k + 1, 0) := by
  have hn : rNext ws k 0 = some (tokT fm t) := by unfold rNext; rw [if_pos rfl, h]
  obtain ⟨kd, nm, nu⟩ := t
  unfold rTerm
  rw [hn]
  rcases ht with ⟨h1, h2⟩ | ⟨h1, h2⟩ | ⟨h1, h2, h3⟩
  · simp only at h1 h2; subst h1; subst h2
    simp [tokT]
  · simp only at h1 h2; subst h1; subst h2
    simp [tokT]
  · simp only at h1 h2 h3; subst h1; subst h2
    obtain ⟨q1, q2⟩ := hF nu h3
    simp only [tokT, Nat.reduceEqDiff, if_false, q1]
    rw [if_neg (by omega)]
    by_cases hneg : nu < 0
    · rw [if_pos (q2.2 hneg)]
      congr 2; omega
    · rw [if_neg (fun h => hneg (q2.1 h))]
      congr 2; omega
theorem rSign_at {ws : List Wd} {k : Nat} {w : Wd} {s : List Nat} (h : ws[k]? = some w) : rSign ws k s = (decide (w.kind = 4) && decide (w.text = s)) := by
  unfold rSign; rw [h]
theorem rArgs_at (hF : FmOk fm) {ws : List Wd} : ∀ (ts : List Tm) (t : Tm) (n : Nat) (args : List Tm) (k : Nat), ts.length < n → args.length ≤ 4 → (∀ u ∈ t :: ts, TmW u) → At ws k (argsW fm (t :: ts) ++ [sgn [41]]) →
    (args.length + (t :: ts).length ≤ 4 → rArgs ws n args k 0 = (args ++ t :: ts, k + (argsW fm (t :: ts)).length, 0)) ∧ (4 < args.length + (t :: ts).length → (rArgs ws n args k 0).2.2 = 8)
  | [], t, n + 1, args, k, hn, h4, hT, h => by
    have h : At ws k (tokT fm t :: [sgn [41]]) := h
    obtain ⟨h1, h2⟩ := h.head
    obtain ⟨h3, _⟩ := h2.head
    have hr := rTerm_at hF (hT t (by simp)) h1
    have hs : rSign ws (k + 1) [44] = false := by rw [rSign_at h3]; rfl
    simp only [rArgs, if_true, hr, hs, Bool.false_eq_true, if_false, true_and, List.length_cons, List.length_nil]
    constructor
    · intro hl
      rw [if_neg (by omega)]
      simp [argsW]
    · intro hl
      rw [if_pos (by omega)]
  | u :: ts, t, n + 1, args, k, hn, h4, hT, h => by
    have h : At ws k (tokT fm t :: sgn [44] :: (argsW fm (u :: ts) ++ [sgn [41]])) := by
      have e : argsW fm (t :: u :: ts) ++ [sgn [41]] = tokT fm t :: sgn [44] :: (argsW fm (u :: ts) ++ [sgn [41]]) := by simp [argsW]
      rw [← e]; exact h
    obtain ⟨h1, h2⟩ := h.head
    obtain ⟨h3, h5⟩ := h2.head
    have hr := rTerm_at hF (hT t (by simp)) h1
    have hs : rSign ws (k + 1) [44] = true := by rw [rSign_at h3]; rfl
    simp only [rArgs, if_true, hr, hs, true_and]
    by_cases hl4 : args.length = 4
    · rw [if_pos hl4]
      constructor
      · intro hl; simp only [List.length_cons] at hl; omega
      · intro _
        cases n with
        | zero => rfl
        | succ n => simp [rArgs]
    · rw [if_neg hl4]
      obtain ⟨g1, g2⟩ := rArgs_at hF ts u n (args ++ [t]) (k + 1 + 1) (by simp only [List.length_cons] at hn; omega) (by simp; omega) (fun v hv => hT v (by simp only [List.mem_cons] at hv ⊢; exact .inr hv)) h5
      have hll : (args ++ [t]).length + (u :: ts).length = args.length + (t :: u :: ts).length := by simp; omega
      rw [hll] at g1 g2
      refine ⟨fun hl => ?_, g2⟩
      rw [g1 hl]
      simp [argsW]; omega
theorem rAtom_at (hF : FmOk fm) {ws : List Wd} {k : Nat} {nm : List Nat} {args : List Tm} (hT : ∀ u ∈ args, TmW u) (h : At ws k (atomW fm nm args)) (hk : k ≤ ws.length) (hno : rSign ws (k + (atomW fm nm args).length) [40] = false) :
    (args.length ≤ 4 → rAtom ws k 0 = (⟨1, nm, args⟩, k + (atomW fm nm args).length, 0)) ∧ (4 < args.length → (rAtom ws k 0).2.2 = 8) := by
  cases args with
  | nil =>
    have h : At ws k [⟨1, nm, 0⟩] := h
    obtain ⟨h1, _⟩ := h.head
    have hn : rNext ws k 0 = some ⟨1, nm, 0⟩ := by unfold rNext; rw [if_pos rfl, h1]
    have hno : rSign ws (k + 1) [40] = false := hno
    refine ⟨fun _ => ?_, fun hh => by simp at hh⟩
    simp only [rAtom, hn, if_true, hno, Bool.false_eq_true, if_false]
    rfl
  | cons t ts =>
    have hle := h.le hk
    have h : At ws k (⟨1, nm, 0⟩ :: sgn [40] :: (argsW fm (t :: ts) ++ [sgn [41]])) := h
    obtain ⟨h1, h2⟩ := h.head
    obtain ⟨h3, h4⟩ := h2.head
    have hn : rNext ws k 0 = some ⟨1, nm, 0⟩ := by unfold rNext; rw [if_pos rfl, h1]
    have hs : rSign ws (k + 1) [40] = true := by rw [rSign_at h3]; rfl
    have hlen : (atomW fm nm (t :: ts)).length = (argsW fm (t :: ts)).length + 3 := by simp [atomW]
    have hal : ts.length < (argsW fm (t :: ts)).length := by
      simp only [argsW, List.length_cons, List.length_flatMap]
      have : ∀ l : List Tm, l.length ≤ (l.map fun u => 0 + 1 + 1).sum := by
        intro l; induction l with
        | nil => simp
        | cons x l ih => simp only [List.length_cons, List.map_cons, List.sum_cons]; omega
      simp only [List.length_nil]
      have := this ts
      omega
    obtain ⟨g1, g2⟩ := rArgs_at hF ts t (ws.length + 1) [] (k + 1 + 1) (by omega) (by simp) hT h4
    obtain ⟨_, h5⟩ := h4.app
    obtain ⟨h6, _⟩ := h5.head
    simp only [List.length_nil, Nat.zero_add, List.nil_append] at g1 g2
    have hshape : ∀ r, rArgs ws (ws.length + 1) [] (k + 1 + 1) 0 = r → rAtom ws k 0 = (⟨1, nm, r.1⟩, (rEat ws [41] r.2.1 r.2.2).1, (rEat ws [41] r.2.1 r.2.2).2) := by
      intro r hr
      simp only [rAtom, hn, if_true, hs]
      rw [show k + 2 = k + 1 + 1 from rfl, hr]
    refine ⟨fun hl => ?_, fun hl => ?_⟩
    · have hs2 : rSign ws (k + 1 + 1 + (argsW fm (t :: ts)).length) [41] = true := by rw [rSign_at h6]; rfl
      rw [hshape _ (g1 hl)]
      simp only [rEat, if_true, hs2, hlen]
      congr 2; omega
    · rw [hshape _ rfl]
      have := g2 hl
      simp only [rEat, this]
      rfl
theorem atomW_pos (nm : List Nat) (args : List Tm) : 0 < (atomW fm nm args).length := by unfold atomW; split <;> simp
theorem rCompare_cmpT {k : Nat} (h : 3 ≤ k ∧ k ≤ 6) : rCompare (cmpT k) = k := by
  obtain ⟨h1, h2⟩ := h
  have : k = 3 ∨ k = 4 ∨ k = 5 ∨ k = 6 := by omega
  rcases this with rfl | rfl | rfl | rfl <;> rfl
theorem rCmpAt_at {ws : List Wd} {k : Nat} {w : Wd} (h : ws[k]? = some w) : rCmpAt ws k = if w.kind = 4 then rCompare w.text else 0 := by
  unfold rCmpAt; rw [h]
theorem rKind_at {ws : List Wd} {k : Nat} {w : Wd} (h : ws[k]? = some w) : rKind ws k = w.kind := by
  unfold rKind; rw [h]
theorem atomW_head (nm : List Nat) (args : List Tm) : ∃ l, atomW fm nm args = ⟨1, nm, 0⟩ :: l ∧ (args ≠ [] → ∃ m, l = sgn [40] :: m) := by
  unfold atomW
  split
  · exact ⟨[], rfl, fun h => absurd rfl h⟩
  · exact ⟨_, rfl, fun _ => ⟨_, rfl⟩⟩
def Stops (ws : List Wd) (k : Nat) : Prop := rSign ws k [40] = false ∧ rCmpAt ws k = 0
theorem rLit_at (hF : FmOk fm) {ws : List Wd} {k : Nat} {l : Lt} (hl : LtW l) (h : At ws k (litW fm l)) (hk : k ≤ ws.length) (hst : Stops ws (k + (litW fm l).length)) :
    (l.args.length ≤ 4 → rLit ws k 0 = (l, k + (litW fm l).length, 0)) ∧ (4 < l.args.length → (rLit ws k 0).2.2 = 8) := by
  obtain ⟨kd, nm, args⟩ := l
  obtain ⟨hkd, hT⟩ := hl
  simp only at hkd hT
  by_cases h1 : kd = 1
  · subst h1
    have e : litW fm ⟨1, nm, args⟩ = atomW fm nm args := if_pos rfl
    rw [e] at h hst ⊢
    obtain ⟨l, hl1, hl2⟩ := atomW_head (fm := fm) nm args
    have h' := h
    rw [hl1] at h'
    obtain ⟨a1, a2⟩ := h'.head
    have hs : rSign ws k [33] = false := by rw [rSign_at a1]; rfl
    have hc : rCmpAt ws (k + 1) = 0 := by
      by_cases ha : args = []
      · have : l = [] := by subst ha; unfold atomW at hl1; injection hl1 with _ h2; exact h2.symm
        subst this
        have := hst.2
        rw [hl1] at this; exact this
      · obtain ⟨m, rfl⟩ := hl2 ha
        obtain ⟨b1, _⟩ := a2.head
        rw [rCmpAt_at b1]; rfl
    have hr : rLit ws k 0 = rAtom ws k 0 := by
      simp only [rLit, hs, Bool.false_eq_true, if_false]
      rw [if_pos ⟨by rw [rKind_at a1], hc⟩]
    rw [hr]
    exact rAtom_at hF hT h hk hst.1
  by_cases h2 : kd = 2
  · subst h2
    have e : litW fm ⟨2, nm, args⟩ = sgn [33] :: atomW fm nm args := by unfold litW; rw [if_neg (by simp), if_pos rfl]
    rw [e] at h hst ⊢
    have hle := h.le hk
    obtain ⟨a1, a2⟩ := h.head
    have hs : rSign ws k [33] = true := by rw [rSign_at a1]; rfl
    rw [List.length_cons] at hst hle ⊢
    have hr : rLit ws k 0 = ({ (rAtom ws (k + 1) 0).1 with kind := 2 }, (rAtom ws (k + 1) 0).2.1, (rAtom ws (k + 1) 0).2.2) := by
      simp only [rLit, hs, if_true]
    obtain ⟨g1, g2⟩ := rAtom_at hF hT a2 (by omega) (by rw [show k + 1 + (atomW fm nm args).length = k + ((atomW fm nm args).length + 1) by omega]; exact hst.1)
    refine ⟨fun hl => ?_, fun hl => by rw [hr]; exact g2 hl⟩
    rw [hr, g1 hl]
    simp only
    congr 2; omega
  · obtain ⟨q1, q2, q3, q4⟩ := hkd.resolve_left (by omega)
    subst q4
    match args, q3 with
    | [a, b], _ =>
    have e : litW fm ⟨kd, [], [a, b]⟩ = [tokT fm a, sgn (cmpT kd), tokT fm b] := by unfold litW; rw [if_neg h1, if_neg h2]
    rw [e] at h hst ⊢
    obtain ⟨a1, a2⟩ := h.head
    obtain ⟨a3, a4⟩ := a2.head
    obtain ⟨a5, _⟩ := a4.head
    have ha := tokT_kind (fm := fm) (hT a (by simp))
    have hs : rSign ws k [33] = false := by rw [rSign_at a1, decide_eq_false (by omega)]; rfl
    have hc : rCmpAt ws (k + 1) = kd := by rw [rCmpAt_at a3]; exact rCompare_cmpT ⟨q1, q2⟩
    have r1 := rTerm_at hF (hT a (by simp)) a1
    have r2 := rTerm_at hF (hT b (by simp)) a5
    refine ⟨fun _ => ?_, fun hl => by simp at hl⟩
    simp only [rLit, hs, Bool.false_eq_true, if_false]
    rw [if_neg (by rw [hc]; omega), r1]
    simp only [hc]
    rw [if_neg (by omega), r2]
    rfl
end Delphi
set_option linter.unusedVariables false
set_option linter.unusedSimpArgs false
namespace Delphi
variable {fm : Int → List Nat}
theorem stops_sign {ws : List Wd} {k : Nat} {s : List Nat} (h : ws[k]? = some (sgn s)) (h1 : s ≠ [40]) (h2 : rCompare s = 0) : Stops ws k := by
  refine ⟨?_, ?_⟩
  · rw [rSign_at h]; show (decide (4 = 4) && decide (s = [40])) = false; rw [decide_eq_false h1]; rfl
  · rw [rCmpAt_at h]; exact h2
theorem litW_pos {l : Lt} (h : LtW l) : 0 < (litW fm l).length := by
  unfold litW
  split
  · exact atomW_pos _ _
  · split
    · simp
    · rename_i h1 h2
      obtain ⟨q1, q2, q3, q4⟩ := h.kind.resolve_left (by omega)
      match hh : l.args, q3 with
      | [a, b], _ => simp
def Four (l : Lt) : Prop := l.args.length ≤ 4
theorem rBody_at (hF : FmOk fm) {ws : List Wd} : ∀ (bs : List Lt) (b : Lt) (n : Nat) (l : List Lt) (k : Nat), bs.length < n → l.length ≤ 6 → (∀ u ∈ b :: bs, LtW u) → k ≤ ws.length → At ws k (litsW fm (b :: bs) ++ [sgn [46]]) →
    (l.length + (b :: bs).length ≤ 6 → (∀ u ∈ b :: bs, Four u) → rBody ws n l k 0 = (l ++ b :: bs, k + (litsW fm (b :: bs)).length, 0)) ∧ ((6 < l.length + (b :: bs).length ∨ ∃ u ∈ b :: bs, ¬ Four u) → (rBody ws n l k 0).2.2 = 8)
  | bs, b, 0, l, k, hn, _, _, _, _ => by omega
  | [], b, n + 1, l, k, hn, h6, hT, hk, h => by
    have e : litsW fm [b] = litW fm b := by simp [litsW]
    rw [e] at h ⊢
    obtain ⟨h1, h2⟩ := h.app
    obtain ⟨h3, _⟩ := h2.head
    obtain ⟨g1, g2⟩ := rLit_at hF (hT b (by simp)) h1 hk (stops_sign h3 (by decide) rfl)
    have hs : rSign ws (k + (litW fm b).length) [44] = false := by rw [rSign_at h3]; rfl
    constructor
    · intro hl hf
      have hr := g1 (hf b (by simp))
      simp only [rBody, if_true, hr, hs, Bool.false_eq_true, if_false, true_and, List.length_cons, List.length_nil] at hl ⊢
      rw [if_neg (by omega)]
    · intro hl
      by_cases hb : Four b
      · have hr := g1 hb
        have hl : 6 < l.length + 1 := by
          rcases hl with hl | ⟨u, hu, hb'⟩
          · simpa using hl
          · simp only [List.mem_cons, List.not_mem_nil, or_false] at hu; subst hu; exact absurd hb hb'
        simp only [rBody, if_true, hr, hs, Bool.false_eq_true, if_false, true_and]
        rw [if_pos (by omega)]
      · have hr := g2 (by unfold Four at hb; omega)
        have hz : ¬ ((rLit ws k 0).2.2 = 0 ∧ l.length = 6) := by rw [hr]; omega
        simp only [rBody, if_true, if_neg hz]
        split
        · rw [hr]
          cases n with
          | zero => rfl
          | succ n => simp [rBody]
        · exact hr
  | u :: bs, b, n + 1, l, k, hn, h6, hT, hk, h => by
    have e : litsW fm (b :: u :: bs) ++ [sgn [46]] = litW fm b ++ (sgn [44] :: (litsW fm (u :: bs) ++ [sgn [46]])) := by simp [litsW]
    rw [e] at h
    have hle := h.le hk
    obtain ⟨h1, h2⟩ := h.app
    obtain ⟨h3, h4⟩ := h2.head
    obtain ⟨g1, g2⟩ := rLit_at hF (hT b (by simp)) h1 hk (stops_sign h3 (by decide) rfl)
    have hs : rSign ws (k + (litW fm b).length) [44] = true := by rw [rSign_at h3]; rfl
    have he : (litsW fm (b :: u :: bs)).length = (litW fm b).length + ((litsW fm (u :: bs)).length + 1) := by simp [litsW]
    rw [List.length_append, List.length_cons] at hle
    by_cases hb : Four b
    · have hr := g1 hb
      by_cases h6' : l.length = 6
      · constructor
        · intro hl; simp only [List.length_cons] at hl; omega
        · intro _
          simp only [rBody, if_true, hr, hs, true_and]
          rw [if_pos h6']
          cases n with
          | zero => rfl
          | succ n => simp [rBody]
      · obtain ⟨i1, i2⟩ := rBody_at hF bs u n (l ++ [b]) (k + (litW fm b).length + 1) (by simp only [List.length_cons] at hn; omega) (by simp; omega) (fun v hv => hT v (by simp only [List.mem_cons] at hv ⊢; exact .inr hv)) (by omega) h4
        have hll : (l ++ [b]).length + (u :: bs).length = l.length + (b :: u :: bs).length := by simp; omega
        rw [hll] at i1 i2
        have hstep : rBody ws (n + 1) l k 0 = rBody ws n (l ++ [b]) (k + (litW fm b).length + 1) 0 := by
          simp only [rBody, if_true, hr, hs, true_and]
          rw [if_neg h6']
        rw [hstep]
        constructor
        · intro hl hf
          rw [i1 hl fun v hv => hf v (by simp only [List.mem_cons] at hv ⊢; exact .inr hv), he]
          simp only [List.append_assoc, List.cons_append, List.nil_append]
          congr 2; omega
        · rintro (hl | ⟨v, hv, hf⟩)
          · exact i2 (.inl hl)
          · rcases List.mem_cons.1 hv with rfl | hv
            · exact absurd hb hf
            · exact i2 (.inr ⟨v, hv, hf⟩)
    · have hr := g2 (by unfold Four at hb; omega)
      constructor
      · intro hl hf; exact absurd (hf b (by simp)) hb
      · intro _
        have hz : ¬ ((rLit ws k 0).2.2 = 0 ∧ l.length = 6) := by rw [hr]; omega
        simp only [rBody, if_true, if_neg hz]
        split
        · rw [hr]
          cases n with
          | zero => rfl
          | succ n => simp [rBody]
        · exact hr
structure RlW (r : Rl) : Prop where
  hk : r.head.kind = 1
  ht : ∀ t ∈ r.head.args, TmW t
  bd : ∀ l ∈ r.body, LtW l
structure RlL (r : Rl) : Prop where
  hd : r.head.args.length ≤ 4
  bd : r.body.length ≤ 6
  ls : ∀ l ∈ r.body, Four l
theorem litsW_len {bs : List Lt} (h : ∀ l ∈ bs, LtW l) : bs.length ≤ (litsW fm bs).length := by
  cases bs with
  | nil => simp
  | cons b bs =>
    have h1 := litW_pos (fm := fm) (h b (by simp))
    simp only [litsW, List.length_cons, List.length_append]
    have : ∀ l : List Lt, l.length ≤ (l.flatMap fun u => sgn [44] :: litW fm u).length := by
      intro l; induction l with
      | nil => simp
      | cons x l ih => simp only [List.flatMap_cons, List.length_append, List.length_cons]; omega
    have := this bs
    omega
theorem rClause_at (hF : FmOk fm) {ws : List Wd} {k : Nat} {r : Rl} (hr : RlW r) (h : At ws k (ruleW fm r)) (hk : k ≤ ws.length) :
    (RlL r → rClause ws k 0 = (r, k + (ruleW fm r).length, 0)) ∧ (¬ RlL r → (rClause ws k 0).2.2 = 8) := by
  obtain ⟨⟨hkd, hnm, hargs⟩, body⟩ := r
  obtain ⟨h1, h2, h3⟩ := hr
  simp only at h1 h2 h3
  subst h1
  have hle := h.le hk
  have h : At ws k (atomW fm hnm hargs ++ (bodyW fm body ++ [sgn [46]])) := h
  have hlen : (ruleW fm ⟨⟨1, hnm, hargs⟩, body⟩).length = (atomW fm hnm hargs).length + ((bodyW fm body).length + 1) := by simp [ruleW]
  rw [hlen] at hle ⊢
  obtain ⟨a1, a2⟩ := h.app
  cases body with
  | nil =>
    have a2 : At ws (k + (atomW fm hnm hargs).length) [sgn [46]] := a2
    obtain ⟨b1, _⟩ := a2.head
    obtain ⟨g1, g2⟩ := rAtom_at hF h2 a1 hk (stops_sign b1 (by decide) rfl).1
    have hs : rSign ws (k + (atomW fm hnm hargs).length) [58, 45] = false := by rw [rSign_at b1]; rfl
    have hd : rSign ws (k + (atomW fm hnm hargs).length) [46] = true := by rw [rSign_at b1]; rfl
    constructor
    · intro hl
      have hr := g1 hl.hd
      simp only [rClause, hr, hs, Bool.false_eq_true, false_and, if_false, rEat, if_true, hd]
      rfl
    · intro hl
      have h4 : 4 < hargs.length := by
        by_cases h4 : hargs.length ≤ 4
        · exact absurd ⟨h4, by simp, by simp⟩ hl
        · omega
      have hr := g2 h4
      simp only [rClause, hr]
      simp [rEat, hr]
  | cons b bs =>
    have a2 : At ws (k + (atomW fm hnm hargs).length) (sgn [58, 45] :: (litsW fm (b :: bs) ++ [sgn [46]])) := a2
    obtain ⟨b1, b2⟩ := a2.head
    obtain ⟨g1, g2⟩ := rAtom_at hF h2 a1 hk (stops_sign b1 (by decide) rfl).1
    have hs : rSign ws (k + (atomW fm hnm hargs).length) [58, 45] = true := by rw [rSign_at b1]; rfl
    have hbl : (bodyW fm (b :: bs)).length = (litsW fm (b :: bs)).length + 1 := by simp [bodyW]
    rw [hbl] at hle ⊢
    have hll := litsW_len (fm := fm) h3
    by_cases h4 : hargs.length ≤ 4
    · have hr := g1 h4
      obtain ⟨i1, i2⟩ := rBody_at hF bs b (ws.length + 1) [] (k + (atomW fm hnm hargs).length + 1) (by simp only [List.length_cons] at hll; omega) (by simp) h3 (by omega) b2
      obtain ⟨_, b3⟩ := b2.app
      obtain ⟨b4, _⟩ := b3.head
      simp only [List.length_nil, Nat.zero_add, List.nil_append] at i1 i2
      constructor
      · intro hl
        have hrb := i1 hl.bd hl.ls
        have hd : rSign ws (k + (atomW fm hnm hargs).length + 1 + (litsW fm (b :: bs)).length) [46] = true := by rw [rSign_at b4]; rfl
        simp only [rClause, hr, hs, and_self, if_true, hrb, rEat, hd]
        congr 2; omega
      · intro hl
        have hbad : 6 < (b :: bs).length ∨ ∃ u ∈ b :: bs, ¬ Four u := by
          by_cases h6 : (b :: bs).length ≤ 6
          · right
            by_cases hf : ∀ u ∈ b :: bs, Four u
            · exact absurd ⟨h4, h6, hf⟩ hl
            · have : ∃ u, ¬ (u ∈ b :: bs → Four u) := Classical.not_forall.1 hf
              obtain ⟨u, hu⟩ := this
              exact ⟨u, by
                by_cases hm : u ∈ b :: bs
                · exact hm
                · exact absurd (fun h => absurd h hm) hu, fun hf => hu fun _ => hf⟩
          · left; omega
        have hrb := i2 hbad
        simp only [rClause, hr, hs, and_self, if_true, hrb]
        simp [rEat, hrb]
    · have hr := g2 (by omega)
      constructor
      · intro hl; exact absurd hl.hd h4
      · intro _
        simp only [rClause, hr]
        simp [rEat, hr]
theorem rRules_err {ws : List Wd} {q : Nat} {l : List Rl} {k e : Nat} (h : e ≠ 0) : rRules ws q l k e = (l, k, e) := by
  cases q with
  | zero => rfl
  | succ q => simp only [rRules]; rw [if_neg (fun hh => h hh.1)]
theorem ruleW_pos (r : Rl) : 0 < (ruleW fm r).length := by simp only [ruleW, List.length_append, List.length_cons, List.length_nil]; omega
theorem rRules_at (hF : FmOk fm) {ws : List Wd} : ∀ (rs : List Rl) (n : Nat) (l : List Rl) (k : Nat), (∀ r ∈ rs, RlW r ∧ RlL r) → k ≤ ws.length → At ws k (rs.flatMap (ruleW fm)) → rs.length < n → l.length + rs.length ≤ 30 →
    ∃ n', rRules ws n l k 0 = rRules ws n' (l ++ rs) (k + (rs.flatMap (ruleW fm)).length) 0 ∧ n = n' + rs.length
  | [], n, l, k, _, _, _, _, _ => ⟨n, by simp, by simp⟩
  | r :: rs, 0, l, k, _, _, _, hn, _ => by omega
  | r :: rs, n + 1, l, k, hr, hk, h, hn, hl => by
    rw [List.flatMap_cons] at h
    have hle := h.le hk
    have hpos := ruleW_pos (fm := fm) r
    obtain ⟨h1, h2⟩ := h.app
    obtain ⟨g1, _⟩ := rClause_at hF (hr r (by simp)).1 h1 hk
    have hc := g1 (hr r (by simp)).2
    rw [List.length_append] at hle
    simp only [List.length_cons] at hn hl
    obtain ⟨n', i1, i2⟩ := rRules_at hF rs n (l ++ [r]) (k + (ruleW fm r).length) (fun x hx => hr x (by simp [hx])) (by omega) h2 (by omega) (by simp; omega)
    refine ⟨n', ?_, by simp; omega⟩
    rw [List.flatMap_cons, List.length_append]
    have : rRules ws (n + 1) l k 0 = rRules ws n (l ++ [r]) (k + (ruleW fm r).length) 0 := by
      simp only [rRules]
      rw [if_pos ⟨trivial, by omega⟩]
      simp only [hc, true_and]
      rw [if_neg (by omega)]
    rw [this, i1]
    simp only [List.append_assoc, List.cons_append, List.nil_append, Nat.add_assoc]
theorem rRules_bad (hF : FmOk fm) {ws : List Wd} {n : Nat} {l : List Rl} {k : Nat} {r : Rl} (hr : RlW r) (hk : k ≤ ws.length) (h : At ws k (ruleW fm r)) (hbad : ¬ RlL r ∨ l.length = 30) : (rRules ws (n + 1) l k 0).2.2 = 8 := by
  have hle := h.le hk
  have hpos := ruleW_pos (fm := fm) r
  obtain ⟨g1, g2⟩ := rClause_at hF hr h hk
  simp only [rRules]
  rw [if_pos ⟨trivial, by omega⟩]
  by_cases hl : RlL r
  · have hl30 := hbad.resolve_left (fun h => h hl)
    simp only [g1 hl, true_and]
    rw [if_pos hl30, rRules_err (by omega)]
  · simp only [g2 hl]
    rw [if_neg (by omega), rRules_err (by omega)]
theorem rulesW_len (rs : List Rl) : rs.length ≤ (rs.flatMap (ruleW fm)).length := by
  induction rs with
  | nil => simp
  | cons r rs ih =>
    have := ruleW_pos (fm := fm) r
    simp only [List.flatMap_cons, List.length_append, List.length_cons]; omega
theorem rProg_bad (hF : FmOk fm) {ws : List Wd} {wh : Bool} {rs : List Rl} {r : Rl} (hrs : ∀ r ∈ rs, RlW r ∧ RlL r) (h30 : rs.length ≤ 30) (hr : RlW r) (hbad : ¬ RlL r ∨ rs.length = 30) (h : At ws 0 ((rs ++ [r]).flatMap (ruleW fm))) : rProg ws wh = ([], 8) := by
  have hl := rulesW_len (fm := fm) rs
  have hle := h.le (Nat.zero_le _)
  rw [List.flatMap_append, List.flatMap_singleton] at h hle
  have hpos := ruleW_pos (fm := fm) r
  rw [List.length_append] at hle
  obtain ⟨a1, a2⟩ := h.app
  obtain ⟨n', h1, h2⟩ := rRules_at hF rs (ws.length + 1) [] 0 hrs (Nat.zero_le _) a1 (by omega) (by simpa using h30)
  obtain ⟨n'', rfl⟩ : ∃ m, n' = m + 1 := ⟨n' - 1, by omega⟩
  have h8 := rRules_bad hF (n := n'') (l := [] ++ rs) hr (by omega) a2 (by simpa using hbad)
  unfold rProg
  rw [h1]
  simp only [h8]
  simp [rBad]
end Delphi
set_option linter.unusedVariables false
set_option linter.unusedSimpArgs false
namespace Delphi
variable (fm : Int → List Nat)
def sgK (g s : List Nat) : Tok := ⟨g, 4, s⟩
variable {fm}
def TmX (fm : Int → List Nat) (t : Tm) : Prop := (t.kind = 1 → varT t.name) ∧ (t.kind = 2 → nameT t.name) ∧ (t.kind = 3 → decT (fm t.num))
structure LtX (fm : Int → List Nat) (l : Lt) : Prop where
  w : LtW l
  nm : l.kind = 1 ∨ l.kind = 2 → nameT l.name
  tm : ∀ t ∈ l.args, TmX fm t
theorem named_var {c : Nat} (h : isVarC c = false) : isNamed c = false ∧ isDigit c = false := by
  unfold isVarC at h
  simp only [Bool.or_eq_false_iff] at h
  refine ⟨h.1, ?_⟩
  have := h.1
  unfold isNamed at this
  simp only [Bool.or_eq_false_iff] at this
  exact this.2.1
theorem ends_n {r : List Nat} (h : Ends isVarC r) : Ends isNamed r ∧ Ends isDigit r := ⟨fun x hx => (named_var (h x hx)).1, fun x hx => (named_var (h x hx)).2⟩
theorem ends_c {c : Nat} {r : List Nat} (h : isVarC c = false) : Ends isVarC (c :: r) := by
  intro x hx
  simp only [List.head?_cons, Option.some.injEq] at hx
  subst hx; exact h
theorem sgK_lx {g s : List Nat} {l : List Tok} {r : List Nat} (hg : Gap g) (hs : s ∈ [[58, 45], [33, 61], [60, 61], [40], [41], [44], [46], [61]]) (h : LxAll l r) : LxAll (sgK g s :: l) r := by
  refine ⟨hg, ?_, fun h => absurd rfl h, lx_sign hs, h⟩
  intro he
  have he : s = [] := he
  subst he; simp at hs
theorem gap32 : Gap [32] := gap_one rfl
end Delphi
set_option linter.unusedVariables false
set_option linter.unusedSimpArgs false
namespace Delphi
open Go.AE
variable [Globs]
theorem decN_all : ∀ (n m : Nat), m ≤ n → (∀ x ∈ decN m, isDigit x = true) ∧ (decN m).foldl rDig 0 = m ∧ ∃ c t, decN m = c :: t ∧ (m ≠ 0 → c ≠ 48)
  | n, m, h => by
    by_cases hs : m < 10
    · rw [decN_small hs]
      refine ⟨fun x hx => ?_, ?_, 48 + m, [], rfl, fun h => by omega⟩
      · simp only [List.mem_cons, List.not_mem_nil, or_false] at hx
        subst hx
        simp only [isDigit, Bool.and_eq_true, decide_eq_true_eq]; omega
      · simp only [List.foldl_cons, List.foldl_nil, rDig]
        rw [if_neg (by omega)]; omega
    · match n, h with
      | 0, h => omega
      | n + 1, h =>
        obtain ⟨h1, h2, c, t, h3, h4⟩ := decN_all n (m / 10) (by omega)
        rw [decN_step hs]
        refine ⟨fun x hx => ?_, ?_, c, t ++ [48 + m % 10], by rw [h3]; rfl, fun _ => h4 (by omega)⟩
        · rcases List.mem_append.1 hx with hx | hx
          · exact h1 x hx
          · simp only [List.mem_cons, List.not_mem_nil, or_false] at hx
            subst hx
            simp only [isDigit, Bool.and_eq_true, decide_eq_true_eq]; omega
        · rw [List.foldl_append, h2]
          simp only [List.foldl_cons, List.foldl_nil, rDig]
          rw [if_neg (by omega)]; omega
theorem fmt_ok : FmOk fmtI := by
  intro n hn
  cases n with
  | ofNat m =>
    obtain ⟨h1, h2, c, t, h3, _⟩ := decN_all m m (Nat.le_refl _)
    refine ⟨h2, ?_⟩
    show (decN m).head? = some 45 ↔ _
    rw [h3]
    simp only [List.head?_cons, Option.some.injEq]
    have hc := h1 c (by rw [h3]; simp)
    constructor
    · rintro rfl; exact absurd hc (by decide)
    · intro h; exact absurd h (by simp)
  | negSucc m =>
    obtain ⟨h1, h2, c, t, h3, _⟩ := decN_all (m + 1) (m + 1) (Nat.le_refl _)
    refine ⟨?_, ?_⟩
    · show (45 :: decN (m + 1)).foldl rDig 0 = m + 1
      rw [List.foldl_cons]
      have : rDig 0 45 = 0 := by simp [rDig]
      rw [this]; exact h2
    · show (45 :: decN (m + 1)).head? = some 45 ↔ _
      simp only [List.head?_cons, true_iff]
      exact Int.negSucc_lt_zero m
def TG (t : Tm) : Prop := TmW t ∧ TmX fmtI t
structure AtG (l : Lt) : Prop where
  kind : l.kind = 1
  nm : nameT l.name
  tm : ∀ t ∈ l.args, TG t
  four : l.args.length ≤ 4
structure LG (l : Lt) : Prop where
  x : LtX fmtI l
  four : l.args.length ≤ 4
omit [Globs] in
theorem AtG.lit {l : Lt} (h : AtG l) : LG l := ⟨⟨⟨.inl (.inl h.kind), fun t ht => (h.tm t ht).1⟩, fun _ => h.nm, fun t ht => (h.tm t ht).2⟩, h.four⟩
end Delphi
