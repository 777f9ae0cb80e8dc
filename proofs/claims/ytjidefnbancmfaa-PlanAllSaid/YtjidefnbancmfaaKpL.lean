/- A part of the proof: PPln1, PPln2, XPlan2, PPln3, PPln4, PPln5. -/
import Derived.Test.YtjidefnbancmfaaKpK
import Derived.Test.YtjidefnbancmfaaKpA
/- Plans: the reference's small functions. -/
set_option linter.unusedVariables false
set_option maxRecDepth 10000
set_option linter.unusedSimpArgs false
namespace Go.Proofs.Ytjidefnbancmfaa
open Go.AE Delphi
variable {tab : Tab}
def PcI (lv : V) (nm : List Nat) (l : List (List Nat)) (aw : AW) (q : Nat) (f : Fr) (w : AW) : Prop :=
  ∃ i, f.get 0 = some lv ∧ f.get 1 = some (.str nm) ∧ f.get 5 = some (.int .i64 (Int.ofNat i)) ∧ i ≤ l.length ∧ q = l.length - i ∧ (∀ x ∈ l.take i, x ≠ nm) ∧ w = aw
/-- place. -/
theorem place_ok (C : Codes tab) {T : Nat → Prop} {aw : AW} {lv : V} {l : List (List Nat)} {nm : List Nat} {K : V → AW → Prop} (hl : Rd T aw lv 1 l.length (strsC l)) (hn : l.length ≤ 1000000)
    (h1 : nm ∈ l → ∀ i : Nat, K (.int .i64 (Int.ofNat i)) aw) (h2 : nm ∉ l → K (.int .i64 (-1)) aw) : WF tab n_ref8_place [lv, .str nm] aw K := by
  refine WF_of C.c_ref8_place rfl ?_
  have hlv := hl.lenV
  refine WS_run 1000 (by simp only [go_sem, eRun_exit, Nat.reduceAdd, Nat.reduceLT, Nat.reduceEqDiff, reduceIte, reduceCtorEq, Nat.reduceLeDiff, k_ref8_place]; rfl) ?_
  refine WS_loopJ (PcI lv nm l aw) (fun f w => nm ∉ l ∧ w = aw) ?_ ?_ l.length ⟨0, (by simp only [go_sem, eRun_exit, Nat.reduceAdd, Nat.reduceLT, Nat.reduceEqDiff, reduceIte, reduceCtorEq, Nat.reduceLeDiff] <;> rfl), (by simp only [go_sem, eRun_exit, Nat.reduceAdd, Nat.reduceLT, Nat.reduceEqDiff, reduceIte, reduceCtorEq, Nat.reduceLeDiff] <;> rfl), (by simp only [go_sem, eRun_exit, Nat.reduceAdd, Nat.reduceLT, Nat.reduceEqDiff, reduceIte, reduceCtorEq, Nat.reduceLeDiff] <;> rfl), by omega, rfl, by simp, rfl⟩
  · rintro q f w ⟨i, f0, f1, f5, hi, rfl, hno, rfl⟩ ih exit
    by_cases hlt : i < l.length
    case neg =>
      rw [List.take_of_length_le (by omega)] at hno
      refine WS_runB 1000 (by simp only [go_sem, Nat.reduceAdd, Nat.reduceLT, Nat.reduceEqDiff, reduceIte, reduceCtorEq, Nat.reduceLeDiff, k_ref8_place_p2, f0, f5, hlv, hlt]; rfl) ?_
      exact exit _ _ _ ⟨fun h => hno _ h rfl, rfl⟩ rfl
    obtain ⟨x, hx⟩ : ∃ t, l[i]? = some t := ⟨_, List.getElem?_eq_getElem hlt⟩
    have hwr : IntKind.wrap .i64 (Int.ofNat i + 1) = Int.ofNat (i + 1) := wrap_succ (by omega)
    rcases hl.inv with ⟨_, q2, _⟩ | ⟨b, o, c, rfl, hB⟩
    · omega
    have l1 : w.load b (o + i) 1 = some [.str x] := hB.cell (by omega) (by rw [strsC, List.getElem?_map, hx]; rfl)
    by_cases hk : x = nm
    · have e : eqL x nm = true := eqL_iff.2 hk
      refine WS_run 1000 (by simp only [go_sem, eRun_exit, Nat.reduceAdd, Nat.reduceLT, Nat.reduceEqDiff, reduceIte, reduceCtorEq, Nat.reduceLeDiff, k_ref8_place_p2, k_ref8_place_p1, k_ref8_place_p0, f0, f1, f5, hlv, hlt, Nat.mul_one, l1, strS, e]; rfl) ?_
      refine WS_ret ⟨_, by simp only [go_sem, eRun_exit, Nat.reduceAdd, Nat.reduceLT, Nat.reduceEqDiff, reduceIte, reduceCtorEq, Nat.reduceLeDiff, k_ref8_place]; rfl, ?_⟩
      exact h1 (hk ▸ List.mem_of_getElem? hx) i
    · have e : eqL x nm = false := eqL_no hk
      refine WS_run 1000 (by simp only [go_sem, eRun_exit, Nat.reduceAdd, Nat.reduceLT, Nat.reduceEqDiff, reduceIte, reduceCtorEq, Nat.reduceLeDiff, k_ref8_place_p2, k_ref8_place_p1, f0, f1, f5, hlv, hlt, Nat.mul_one, l1, strS, e, hwr]; rfl) ?_
      refine ih _ _ _ (by omega) ⟨i + 1, (by simp only [go_sem, eRun_exit, Nat.reduceAdd, Nat.reduceLT, Nat.reduceEqDiff, reduceIte, reduceCtorEq, Nat.reduceLeDiff, f0] <;> rfl), (by simp only [go_sem, eRun_exit, Nat.reduceAdd, Nat.reduceLT, Nat.reduceEqDiff, reduceIte, reduceCtorEq, Nat.reduceLeDiff, f1] <;> rfl), (by simp only [go_sem, eRun_exit, Nat.reduceAdd, Nat.reduceLT, Nat.reduceEqDiff, reduceIte, reduceCtorEq, Nat.reduceLeDiff] <;> rfl), by omega, rfl, fun y hy => ?_, rfl⟩
      rw [take_snoc_of hx, List.mem_append, List.mem_singleton] at hy
      rcases hy with hy | rfl
      · exact hno y hy
      · exact hk
  · rintro f w ⟨hno, rfl⟩
    refine WS_run 1000 (by simp only [go_sem, eRun_exit, Nat.reduceAdd, Nat.reduceLT, Nat.reduceEqDiff, reduceIte, reduceCtorEq, Nat.reduceLeDiff]; rfl) ?_
    refine WS_ret ⟨_, by simp only [go_sem, eRun_exit, Nat.reduceAdd, Nat.reduceLT, Nat.reduceEqDiff, reduceIte, reduceCtorEq, Nat.reduceLeDiff, k_ref8_place]; rfl, ?_⟩
    exact h2 hno
def BdI (n2 : Nat) (bv : V) (bd : List (List Nat)) (x : Lt) (w0 : AW) (q : Nat) (f : Fr) (w : AW) : Prop :=
  ∃ i, f.get 1 = some bv ∧ f.get 2 = some (.ptr n2 0) ∧ f.get 5 = some (.int .i64 (Int.ofNat ((x.args.take i).countP (argB bd)))) ∧ f.get 6 = some (.int .i64 (Int.ofNat i)) ∧ i ≤ x.args.length ∧ q = x.args.length - i ∧ w = w0
/-- bound. -/
theorem bound_ok (C : Codes tab) {T T2 : Nat → Prop} {aw : AW} {xs : List V} {x : Lt} {bv : V} {bd : List (List Nat)} {K : V → AW → Prop} (hx : LtC T aw x xs) (hb : Rd T2 aw bv 1 bd.length (strsC bd)) (hn : bd.length ≤ 1000000) (ha : x.args.length ≤ 1000)
    (h : ∀ w, Frm (fun _ => False) aw w → K (.int .i64 (Int.ofNat (bndN bd x))) w) : WF tab n_ref8_bound [.agg xs, bv] aw K := by
  refine WF_of C.c_ref8_bound rfl ?_
  obtain ⟨u, rfl, hu⟩ := hx
  have cb := fresh_cb aw [V.int .i64 (Int.ofNat x.kind), .str x.name, u]
  have ff := fresh_frm (S := fun _ => False) aw [V.int .i64 (Int.ofNat x.kind), .str x.name, u]
  generalize hw1 : aw.fresh [V.int .i64 (Int.ofNat x.kind), .str x.name, u] = w1 at cb ff
  have l2 : w1.load aw.next 2 1 = some [u] := by rw [cb.load]; rfl
  have hu1 := hu.frm ff fun _ _ h => h
  have hb1 := hb.frm ff fun _ _ h => h
  have hlv := hu.lenV
  refine WS_run 1000 (by simp only [go_sem, eRun_exit, Nat.reduceAdd, Nat.reduceLT, Nat.reduceEqDiff, reduceIte, reduceCtorEq, Nat.reduceLeDiff, k_ref8_bound, hw1]; rfl) ?_
  refine WS_loopJ (BdI aw.next bv bd x w1) (fun f w => f.get 5 = some (.int .i64 (Int.ofNat (bndN bd x))) ∧ w = w1) ?_ ?_ x.args.length ⟨0, (by simp only [go_sem, eRun_exit, Nat.reduceAdd, Nat.reduceLT, Nat.reduceEqDiff, reduceIte, reduceCtorEq, Nat.reduceLeDiff] <;> rfl), (by simp only [go_sem, eRun_exit, Nat.reduceAdd, Nat.reduceLT, Nat.reduceEqDiff, reduceIte, reduceCtorEq, Nat.reduceLeDiff] <;> rfl), (by simp only [go_sem, eRun_exit, Nat.reduceAdd, Nat.reduceLT, Nat.reduceEqDiff, reduceIte, reduceCtorEq, Nat.reduceLeDiff] <;> rfl), (by simp only [go_sem, eRun_exit, Nat.reduceAdd, Nat.reduceLT, Nat.reduceEqDiff, reduceIte, reduceCtorEq, Nat.reduceLeDiff] <;> rfl), by omega, rfl, rfl⟩
  · rintro q f w ⟨i, f1, f2, f5, f6, hi, rfl, rfl⟩ ih exit
    by_cases hlt : i < x.args.length
    case neg =>
      rw [List.take_of_length_le (by omega)] at f5
      refine WS_runB 1000 (by simp only [go_sem, Nat.reduceAdd, Nat.reduceLT, Nat.reduceEqDiff, reduceIte, reduceCtorEq, Nat.reduceLeDiff, k_ref8_bound_p2, f2, f6, l2, hlv, hlt]; rfl) ?_
      exact exit _ _ _ ⟨(by simp only [go_sem, eRun_exit, Nat.reduceAdd, Nat.reduceLT, Nat.reduceEqDiff, reduceIte, reduceCtorEq, Nat.reduceLeDiff, f5, bndN] <;> rfl), rfl⟩ rfl
    obtain ⟨t, ht⟩ : ∃ t, x.args[i]? = some t := ⟨_, List.getElem?_eq_getElem hlt⟩
    have hwr : IntKind.wrap .i64 (Int.ofNat i + 1) = Int.ofNat (i + 1) := wrap_succ (by omega)
    obtain ⟨b, o, c, rfl, _, _, _, t0, t1⟩ := tms_at hu1 ht
    have hcl : (x.args.take i).countP (argB bd) ≤ i := by have := List.countP_le_length (p := argB bd) (l := x.args.take i); rw [List.length_take] at this; omega
    have hwc : IntKind.wrap .i64 (Int.ofNat ((x.args.take i).countP (argB bd)) + 1) = Int.ofNat ((x.args.take i).countP (argB bd) + 1) := wrap_succ (by omega)
    have e : (x.args.take (i + 1)).countP (argB bd) = (x.args.take i).countP (argB bd) + (if argB bd t = true then 1 else 0) := by
      rw [take_snoc_of ht, List.countP_append]
      simp [List.countP_cons]
    by_cases hk : t.kind = 1
    case neg =>
      have hb : argB bd t = true := decide_eq_true (.inl hk)
      rw [if_pos hb] at e
      refine WS_run 1000 (by simp only [go_sem, eRun_exit, Nat.reduceAdd, Nat.reduceLT, Nat.reduceEqDiff, reduceIte, reduceCtorEq, Nat.reduceLeDiff, k_ref8_bound_p2, k_ref8_bound_p1, k_ref8_bound_p0, f1, f2, f5, f6, l2, hlv, hlt, t0, hk, hwr, hwc]; rfl) ?_
      exact ih _ _ _ (by omega) ⟨i + 1, (by simp only [go_sem, eRun_exit, Nat.reduceAdd, Nat.reduceLT, Nat.reduceEqDiff, reduceIte, reduceCtorEq, Nat.reduceLeDiff, f1] <;> rfl), (by simp only [go_sem, eRun_exit, Nat.reduceAdd, Nat.reduceLT, Nat.reduceEqDiff, reduceIte, reduceCtorEq, Nat.reduceLeDiff, f2] <;> rfl), by rw [e]; exact (by simp only [go_sem, eRun_exit, Nat.reduceAdd, Nat.reduceLT, Nat.reduceEqDiff, reduceIte, reduceCtorEq, Nat.reduceLeDiff] <;> rfl), (by simp only [go_sem, eRun_exit, Nat.reduceAdd, Nat.reduceLT, Nat.reduceEqDiff, reduceIte, reduceCtorEq, Nat.reduceLeDiff] <;> rfl), by omega, rfl, rfl⟩
    · rw [hk] at t0
      refine WS_run 1000 (by simp only [go_sem, eRun_exit, Nat.reduceAdd, Nat.reduceLT, Nat.reduceEqDiff, reduceIte, reduceCtorEq, Nat.reduceLeDiff, k_ref8_bound_p2, k_ref8_bound_p1, f1, f2, f5, f6, l2, hlv, hlt, t0, t1]; rfl) ?_
      refine WS_call (by simp only [go_sem, eRun_exit, Nat.reduceAdd, Nat.reduceLT, Nat.reduceEqDiff, reduceIte, reduceCtorEq, Nat.reduceLeDiff]) (by simp only [go_sem, eRun_exit, Nat.reduceAdd, Nat.reduceLT, Nat.reduceEqDiff, reduceIte, reduceCtorEq, Nat.reduceLeDiff]; rfl) ?_
      refine place_ok C hb1 hn (fun hm j => ?_) (fun hm => ?_)
      · have hb : argB bd t = true := decide_eq_true (.inr hm)
        rw [if_pos hb] at e
        refine WS_run 1000 (by simp only [go_sem, eRun_exit, Nat.reduceAdd, Nat.reduceLT, Nat.reduceEqDiff, reduceIte, reduceCtorEq, Nat.reduceLeDiff, k_ref8_bound_p0, f5, f6, hwr, hwc]; rfl) ?_
        exact ih _ _ _ (by omega) ⟨i + 1, (by simp only [go_sem, eRun_exit, Nat.reduceAdd, Nat.reduceLT, Nat.reduceEqDiff, reduceIte, reduceCtorEq, Nat.reduceLeDiff, f1] <;> rfl), (by simp only [go_sem, eRun_exit, Nat.reduceAdd, Nat.reduceLT, Nat.reduceEqDiff, reduceIte, reduceCtorEq, Nat.reduceLeDiff, f2] <;> rfl), by rw [e]; exact (by simp only [go_sem, eRun_exit, Nat.reduceAdd, Nat.reduceLT, Nat.reduceEqDiff, reduceIte, reduceCtorEq, Nat.reduceLeDiff] <;> rfl), (by simp only [go_sem, eRun_exit, Nat.reduceAdd, Nat.reduceLT, Nat.reduceEqDiff, reduceIte, reduceCtorEq, Nat.reduceLeDiff] <;> rfl), by omega, rfl, rfl⟩
      · have hb : ¬ argB bd t = true := by simp [argB, hk, hm]
        rw [if_neg hb] at e
        refine WS_run 1000 (by simp only [go_sem, eRun_exit, Nat.reduceAdd, Nat.reduceLT, Nat.reduceEqDiff, reduceIte, reduceCtorEq, Nat.reduceLeDiff, f5, f6, hwr]; rfl) ?_
        exact ih _ _ _ (by omega) ⟨i + 1, (by simp only [go_sem, eRun_exit, Nat.reduceAdd, Nat.reduceLT, Nat.reduceEqDiff, reduceIte, reduceCtorEq, Nat.reduceLeDiff, f1] <;> rfl), (by simp only [go_sem, eRun_exit, Nat.reduceAdd, Nat.reduceLT, Nat.reduceEqDiff, reduceIte, reduceCtorEq, Nat.reduceLeDiff, f2] <;> rfl), by rw [e]; exact (by simp only [go_sem, eRun_exit, Nat.reduceAdd, Nat.reduceLT, Nat.reduceEqDiff, reduceIte, reduceCtorEq, Nat.reduceLeDiff, f5] <;> rfl), (by simp only [go_sem, eRun_exit, Nat.reduceAdd, Nat.reduceLT, Nat.reduceEqDiff, reduceIte, reduceCtorEq, Nat.reduceLeDiff] <;> rfl), by omega, rfl, rfl⟩
  · rintro f w ⟨f5, rfl⟩
    refine WS_run 1000 (by simp only [go_sem, eRun_exit, Nat.reduceAdd, Nat.reduceLT, Nat.reduceEqDiff, reduceIte, reduceCtorEq, Nat.reduceLeDiff, f5]; rfl) ?_
    refine WS_ret ⟨_, by simp only [go_sem, eRun_exit, Nat.reduceAdd, Nat.reduceLT, Nat.reduceEqDiff, reduceIte, reduceCtorEq, Nat.reduceLeDiff, k_ref8_bound]; rfl, ?_⟩
    exact h w ff
end Go.Proofs.Ytjidefnbancmfaa

/- Plans: the reference's vars. -/
set_option linter.unusedVariables false
set_option maxRecDepth 10000
set_option linter.unusedSimpArgs false
namespace Delphi
theorem newStep_len (bd out : List (List Nat)) (t : Tm) : (newStep bd out t).length ≤ out.length + 1 := by
  unfold newStep; split <;> simp
theorem newFold_len (bd : List (List Nat)) : ∀ (l : List Tm) (out : List (List Nat)), (l.foldl (newStep bd) out).length ≤ out.length + l.length
  | [], out => by simp
  | t :: l, out => by
    rw [List.foldl_cons, List.length_cons]
    have := newFold_len bd l (newStep bd out t)
    have := newStep_len bd out t
    omega
theorem newV_len (bd : List (List Nat)) (l : Lt) : (newV bd l).length ≤ l.args.length := by
  have := newFold_len bd l.args []
  simpa [newV] using this
end Delphi
namespace Go.Proofs.Ytjidefnbancmfaa
open Go.AE Delphi
variable {tab : Tab}
def VrI (n2 : Nat) (bv u : V) (bd : List (List Nat)) (x : Lt) (aw : AW) (q : Nat) (f : Fr) (w : AW) : Prop :=
  ∃ i out ov S, f.get 1 = some bv ∧ f.get 2 = some (.ptr n2 0) ∧ f.get 5 = some ov ∧ f.get 6 = some (.int .i64 (Int.ofNat i)) ∧ i ≤ x.args.length ∧ q = x.args.length - i ∧ out = (x.args.take i).foldl (newStep bd) [] ∧ out.length ≤ i ∧ Bt S w ov 1 out.length (strsC out) ∧ (∀ y, S y → aw.next ≤ y ∧ y < w.next ∧ y ≠ n2) ∧ Frm (fun _ => False) aw w ∧ CB w n2 [.int .i64 (Int.ofNat x.kind), .str x.name, u]
/-- vars. -/
theorem rvars_ok (C : Codes tab) {T T2 : Nat → Prop} {aw : AW} {xs : List V} {x : Lt} {bv : V} {bd : List (List Nat)} {K : V → AW → Prop} (hx : LtC T aw x xs) (hb : Rd T2 aw bv 1 bd.length (strsC bd)) (hn : bd.length ≤ 1000000) (ha : x.args.length ≤ 1000)
    (h : ∀ w v S, Bt S w v 1 (newV bd x).length (strsC (newV bd x)) → Frm (fun _ => False) aw w → (∀ y, S y → aw.next ≤ y ∧ y < w.next) → K v w) : WF tab n_ref8_vars [.agg xs, bv] aw K := by
  refine WF_of C.c_ref8_vars rfl ?_
  obtain ⟨u, rfl, hu⟩ := hx
  have cb := fresh_cb aw [V.int .i64 (Int.ofNat x.kind), .str x.name, u]
  have ff := fresh_frm (S := fun _ => False) aw [V.int .i64 (Int.ofNat x.kind), .str x.name, u]
  have m1 : (aw.fresh [V.int .i64 (Int.ofNat x.kind), .str x.name, u]).next = aw.next + 1 := rfl
  generalize hw1 : aw.fresh [V.int .i64 (Int.ofNat x.kind), .str x.name, u] = w1 at cb ff m1
  have hlv := hu.lenV
  refine WS_run 1000 (by simp only [go_sem, eRun_exit, Nat.reduceAdd, Nat.reduceLT, Nat.reduceEqDiff, reduceIte, reduceCtorEq, Int.reduceLT, Int.reduceBEq, Int.reduceGE, Int.reduceEq, Int.reduceAdd, Nat.reduceLeDiff, k_ref8_vars, hw1]; rfl) ?_
  refine WS_loopJ (VrI aw.next bv u bd x aw) (fun f w => ∃ ov S, f.get 5 = some ov ∧ Bt S w ov 1 (newV bd x).length (strsC (newV bd x)) ∧ Frm (fun _ => False) aw w ∧ (∀ y, S y → aw.next ≤ y ∧ y < w.next)) ?_ ?_ x.args.length ⟨0, [], .nilslice, fun _ => False, (by simp only [go_sem, eRun_exit, Nat.reduceAdd, Nat.reduceLT, Nat.reduceEqDiff, reduceIte, reduceCtorEq, Int.reduceLT, Int.reduceBEq, Int.reduceGE, Int.reduceEq, Int.reduceAdd, Nat.reduceLeDiff] <;> rfl), (by simp only [go_sem, eRun_exit, Nat.reduceAdd, Nat.reduceLT, Nat.reduceEqDiff, reduceIte, reduceCtorEq, Int.reduceLT, Int.reduceBEq, Int.reduceGE, Int.reduceEq, Int.reduceAdd, Nat.reduceLeDiff] <;> rfl), (by simp only [go_sem, eRun_exit, Nat.reduceAdd, Nat.reduceLT, Nat.reduceEqDiff, reduceIte, reduceCtorEq, Int.reduceLT, Int.reduceBEq, Int.reduceGE, Int.reduceEq, Int.reduceAdd, Nat.reduceLeDiff] <;> rfl), (by simp only [go_sem, eRun_exit, Nat.reduceAdd, Nat.reduceLT, Nat.reduceEqDiff, reduceIte, reduceCtorEq, Int.reduceLT, Int.reduceBEq, Int.reduceGE, Int.reduceEq, Int.reduceAdd, Nat.reduceLeDiff] <;> rfl), by omega, rfl, rfl, by simp, .nil, fun _ h => h.elim, ff, cb⟩
  · rintro q f w ⟨i, out, ov, S, f1, f2, f5, f6, hi, rfl, hout, hol, hbt, hS, hf, hcb⟩ ih exit
    have l2 : w.load aw.next 2 1 = some [u] := by rw [hcb.load]; rfl
    by_cases hlt : i < x.args.length
    case neg =>
      rw [List.take_of_length_le (by omega)] at hout
      have hout : out = newV bd x := hout
      subst hout
      refine WS_runB 1000 (by simp only [go_sem, Nat.reduceAdd, Nat.reduceLT, Nat.reduceEqDiff, reduceIte, reduceCtorEq, Int.reduceLT, Int.reduceBEq, Int.reduceGE, Int.reduceEq, Int.reduceAdd, Nat.reduceLeDiff, k_ref8_vars_p3, f2, f6, l2, hlv, hlt]; rfl) ?_
      exact exit _ _ _ ⟨ov, S, (by simp only [go_sem, eRun_exit, Nat.reduceAdd, Nat.reduceLT, Nat.reduceEqDiff, reduceIte, reduceCtorEq, Int.reduceLT, Int.reduceBEq, Int.reduceGE, Int.reduceEq, Int.reduceAdd, Nat.reduceLeDiff, f5] <;> rfl), hbt, hf, fun y hy => ⟨(hS y hy).1, (hS y hy).2.1⟩⟩ rfl
    obtain ⟨t, ht⟩ : ∃ t, x.args[i]? = some t := ⟨_, List.getElem?_eq_getElem hlt⟩
    have hwr : IntKind.wrap .i64 (Int.ofNat i + 1) = Int.ofNat (i + 1) := wrap_succ (by omega)
    obtain ⟨b, o, c, rfl, _, _, t3, _, _⟩ := tms_at (hu.frm hf fun _ _ h => h) ht
    obtain ⟨w2, s2, c2, r2, n2⟩ := boxed w (zs := [V.int .i64 0, V.str [], V.int .i64 0]) (vs := tmC t) rfl rfl
    have k0 : w2.load w.next 0 1 = some [.int .i64 (Int.ofNat t.kind)] := by rw [c2.load]; rfl
    have k1 : w2.load w.next 1 1 = some [.str t.name] := by rw [c2.load]; rfl
    have hf2 := hf.tr r2
    have hcb2 := hcb.frm r2 fun h => h
    have hbt2 := hbt.frm r2 fun _ _ h => h
    have hb2 := hb.frm hf2 fun _ _ h => h
    have e0 : (x.args.take (i + 1)).foldl (newStep bd) [] = newStep bd out t := by
      rw [take_snoc_of ht, List.foldl_append, ← hout]; rfl
    have hlo := hcb.lt
    have stay : ¬ (t.kind = 1 ∧ t.name ∉ bd ∧ t.name ∉ out) → out = (x.args.take (i + 1)).foldl (newStep bd) [] := fun hno => by rw [e0, newStep, if_neg hno]
    by_cases hk : t.kind = 1
    case neg =>
      refine WS_run 1000 (by simp only [go_sem, eRun_exit, Nat.reduceAdd, Nat.reduceLT, Nat.reduceEqDiff, reduceIte, reduceCtorEq, Int.reduceLT, Int.reduceBEq, Int.reduceGE, Int.reduceEq, Int.reduceAdd, Nat.reduceLeDiff, k_ref8_vars_p3, k_ref8_vars_p2, k_ref8_vars_p1, f2, f6, l2, hlv, hlt, t3, s2, tmC_len, k0, hk, hwr]; rfl) ?_
      exact ih _ _ _ (by omega) ⟨i + 1, out, ov, S, (by simp only [go_sem, eRun_exit, Nat.reduceAdd, Nat.reduceLT, Nat.reduceEqDiff, reduceIte, reduceCtorEq, Int.reduceLT, Int.reduceBEq, Int.reduceGE, Int.reduceEq, Int.reduceAdd, Nat.reduceLeDiff, f1] <;> rfl), (by simp only [go_sem, eRun_exit, Nat.reduceAdd, Nat.reduceLT, Nat.reduceEqDiff, reduceIte, reduceCtorEq, Int.reduceLT, Int.reduceBEq, Int.reduceGE, Int.reduceEq, Int.reduceAdd, Nat.reduceLeDiff, f2] <;> rfl), (by simp only [go_sem, eRun_exit, Nat.reduceAdd, Nat.reduceLT, Nat.reduceEqDiff, reduceIte, reduceCtorEq, Int.reduceLT, Int.reduceBEq, Int.reduceGE, Int.reduceEq, Int.reduceAdd, Nat.reduceLeDiff, f5] <;> rfl), (by simp only [go_sem, eRun_exit, Nat.reduceAdd, Nat.reduceLT, Nat.reduceEqDiff, reduceIte, reduceCtorEq, Int.reduceLT, Int.reduceBEq, Int.reduceGE, Int.reduceEq, Int.reduceAdd, Nat.reduceLeDiff] <;> rfl), by omega, rfl, stay fun h => hk h.1, by omega, hbt2, fun y hy => by have := hS y hy; exact ⟨this.1, by omega, this.2.2⟩, hf2, hcb2⟩
    have k0' : w2.load w.next 0 1 = some [.int .i64 1] := by rw [k0, hk]; rfl
    refine WS_run 1000 (by simp only [go_sem, eRun_exit, Nat.reduceAdd, Nat.reduceLT, Nat.reduceEqDiff, reduceIte, reduceCtorEq, Int.reduceLT, Int.reduceBEq, Int.reduceGE, Int.reduceEq, Int.reduceAdd, Nat.reduceLeDiff, k_ref8_vars_p3, k_ref8_vars_p2, k_ref8_vars_p1, f1, f2, f6, l2, hlv, hlt, t3, s2, tmC_len, k0', k1]; rfl) ?_
    refine WS_call (by simp only [go_sem, eRun_exit, Nat.reduceAdd, Nat.reduceLT, Nat.reduceEqDiff, reduceIte, reduceCtorEq, Int.reduceLT, Int.reduceBEq, Int.reduceGE, Int.reduceEq, Int.reduceAdd, Nat.reduceLeDiff]) (by simp only [go_sem, eRun_exit, Nat.reduceAdd, Nat.reduceLT, Nat.reduceEqDiff, reduceIte, reduceCtorEq, Int.reduceLT, Int.reduceBEq, Int.reduceGE, Int.reduceEq, Int.reduceAdd, Nat.reduceLeDiff]; rfl) ?_
    refine place_ok C hb2 hn (fun hm j => ?_) (fun hm => ?_)
    · refine WS_run 1000 (by simp only [go_sem, eRun_exit, Nat.reduceAdd, Nat.reduceLT, Nat.reduceEqDiff, reduceIte, reduceCtorEq, Int.reduceLT, Int.reduceBEq, Int.reduceGE, Int.reduceEq, Int.reduceAdd, Nat.reduceLeDiff, f6, hwr]; rfl) ?_
      exact ih _ _ _ (by omega) ⟨i + 1, out, ov, S, (by simp only [go_sem, eRun_exit, Nat.reduceAdd, Nat.reduceLT, Nat.reduceEqDiff, reduceIte, reduceCtorEq, Int.reduceLT, Int.reduceBEq, Int.reduceGE, Int.reduceEq, Int.reduceAdd, Nat.reduceLeDiff, f1] <;> rfl), (by simp only [go_sem, eRun_exit, Nat.reduceAdd, Nat.reduceLT, Nat.reduceEqDiff, reduceIte, reduceCtorEq, Int.reduceLT, Int.reduceBEq, Int.reduceGE, Int.reduceEq, Int.reduceAdd, Nat.reduceLeDiff, f2] <;> rfl), (by simp only [go_sem, eRun_exit, Nat.reduceAdd, Nat.reduceLT, Nat.reduceEqDiff, reduceIte, reduceCtorEq, Int.reduceLT, Int.reduceBEq, Int.reduceGE, Int.reduceEq, Int.reduceAdd, Nat.reduceLeDiff, f5] <;> rfl), (by simp only [go_sem, eRun_exit, Nat.reduceAdd, Nat.reduceLT, Nat.reduceEqDiff, reduceIte, reduceCtorEq, Int.reduceLT, Int.reduceBEq, Int.reduceGE, Int.reduceEq, Int.reduceAdd, Nat.reduceLeDiff] <;> rfl), by omega, rfl, stay fun h => h.2.1 hm, by omega, hbt2, fun y hy => by have := hS y hy; exact ⟨this.1, by omega, this.2.2⟩, hf2, hcb2⟩
    · refine WS_run 1000 (by simp only [go_sem, eRun_exit, Nat.reduceAdd, Nat.reduceLT, Nat.reduceEqDiff, reduceIte, reduceCtorEq, Int.reduceLT, Int.reduceBEq, Int.reduceGE, Int.reduceEq, Int.reduceAdd, Nat.reduceLeDiff, f5, k1]; rfl) ?_
      refine WS_call (by simp only [go_sem, eRun_exit, Nat.reduceAdd, Nat.reduceLT, Nat.reduceEqDiff, reduceIte, reduceCtorEq, Int.reduceLT, Int.reduceBEq, Int.reduceGE, Int.reduceEq, Int.reduceAdd, Nat.reduceLeDiff]) (by simp only [go_sem, eRun_exit, Nat.reduceAdd, Nat.reduceLT, Nat.reduceEqDiff, reduceIte, reduceCtorEq, Int.reduceLT, Int.reduceBEq, Int.reduceGE, Int.reduceEq, Int.reduceAdd, Nat.reduceLeDiff]; rfl) ?_
      refine place_ok C hbt2.rd (by omega) (fun hm2 j => ?_) (fun hm2 => ?_)
      · refine WS_run 1000 (by simp only [go_sem, eRun_exit, Nat.reduceAdd, Nat.reduceLT, Nat.reduceEqDiff, reduceIte, reduceCtorEq, Int.reduceLT, Int.reduceBEq, Int.reduceGE, Int.reduceEq, Int.reduceAdd, Nat.reduceLeDiff, f6, hwr]; rfl) ?_
        exact ih _ _ _ (by omega) ⟨i + 1, out, ov, S, (by simp only [go_sem, eRun_exit, Nat.reduceAdd, Nat.reduceLT, Nat.reduceEqDiff, reduceIte, reduceCtorEq, Int.reduceLT, Int.reduceBEq, Int.reduceGE, Int.reduceEq, Int.reduceAdd, Nat.reduceLeDiff, f1] <;> rfl), (by simp only [go_sem, eRun_exit, Nat.reduceAdd, Nat.reduceLT, Nat.reduceEqDiff, reduceIte, reduceCtorEq, Int.reduceLT, Int.reduceBEq, Int.reduceGE, Int.reduceEq, Int.reduceAdd, Nat.reduceLeDiff, f2] <;> rfl), (by simp only [go_sem, eRun_exit, Nat.reduceAdd, Nat.reduceLT, Nat.reduceEqDiff, reduceIte, reduceCtorEq, Int.reduceLT, Int.reduceBEq, Int.reduceGE, Int.reduceEq, Int.reduceAdd, Nat.reduceLeDiff, f5] <;> rfl), (by simp only [go_sem, eRun_exit, Nat.reduceAdd, Nat.reduceLT, Nat.reduceEqDiff, reduceIte, reduceCtorEq, Int.reduceLT, Int.reduceBEq, Int.reduceGE, Int.reduceEq, Int.reduceAdd, Nat.reduceLeDiff] <;> rfl), by omega, rfl, stay fun h => h.2.2 hm2, by omega, hbt2, fun y hy => by have := hS y hy; exact ⟨this.1, by omega, this.2.2⟩, hf2, hcb2⟩
      · have hS2 : ∀ b, S b → b < w2.next := fun b hb => by have := (hS b hb).2.1; omega
        obtain ⟨v', w5, S5, u1, u2, u3, u4⟩ := hbt2.push (news := [V.str t.name]) (bytes := 16) hS2 (by omega) rfl rfl (by omega) (by omega)
        have b4 := elems_fresh (w := w2) (esz := 1) (n := 1) (cs := [V.str t.name]) (c := .known 1) (by omega) rfl
        have hov : over [V.str []] 0 [V.str t.name] = some [V.str t.name] := rfl
        refine WS_run 1000 (by simp only [go_sem, eRun_exit, Nat.reduceAdd, Nat.reduceLT, Nat.reduceEqDiff, reduceIte, reduceCtorEq, Int.reduceLT, Int.reduceBEq, Int.reduceGE, Int.reduceEq, Int.reduceAdd, Nat.reduceLeDiff, k_ref8_vars_p0, f5, f6, k1, hwr, evParts, fillV, hov, u1, b4, List.length_cons, List.length_nil]; rfl) ?_
        refine ih _ _ _ (by omega) ⟨i + 1, out ++ [t.name], v', S5, (by simp only [go_sem, eRun_exit, Nat.reduceAdd, Nat.reduceLT, Nat.reduceEqDiff, reduceIte, reduceCtorEq, Int.reduceLT, Int.reduceBEq, Int.reduceGE, Int.reduceEq, Int.reduceAdd, Nat.reduceLeDiff, f1] <;> rfl), (by simp only [go_sem, eRun_exit, Nat.reduceAdd, Nat.reduceLT, Nat.reduceEqDiff, reduceIte, reduceCtorEq, Int.reduceLT, Int.reduceBEq, Int.reduceGE, Int.reduceEq, Int.reduceAdd, Nat.reduceLeDiff, f2] <;> rfl), (by simp only [go_sem, eRun_exit, Nat.reduceAdd, Nat.reduceLT, Nat.reduceEqDiff, reduceIte, reduceCtorEq, Int.reduceLT, Int.reduceBEq, Int.reduceGE, Int.reduceEq, Int.reduceAdd, Nat.reduceLeDiff] <;> rfl), (by simp only [go_sem, eRun_exit, Nat.reduceAdd, Nat.reduceLT, Nat.reduceEqDiff, reduceIte, reduceCtorEq, Int.reduceLT, Int.reduceBEq, Int.reduceGE, Int.reduceEq, Int.reduceAdd, Nat.reduceLeDiff] <;> rfl), by omega, rfl, ?_, by simp; omega, ?_, fun y hy => ?_, hf2.trans u3 (fun _ _ h => h) fun y hy h => by have := (hS y h).1; omega, hcb2.frm u3 fun h => (hS _ h).2.2 rfl⟩
        · rw [e0, newStep, if_pos ⟨hk, hm, hm2⟩]
        · rw [List.length_append, List.length_singleton]
          have : strsC (out ++ [t.name]) = strsC out ++ [V.str t.name] := by simp [strsC]
          rw [this]; exact u2
        · obtain ⟨m2, m3⟩ := u4 y hy
          have := hf.next
          rcases m3 with m3 | m3
          · exact ⟨(hS y m3).1, m2, (hS y m3).2.2⟩
          · exact ⟨by omega, m2, by omega⟩
  · rintro f w ⟨ov, S, f5, h1, h2, h3⟩
    refine WS_run 1000 (by simp only [go_sem, eRun_exit, Nat.reduceAdd, Nat.reduceLT, Nat.reduceEqDiff, reduceIte, reduceCtorEq, Int.reduceLT, Int.reduceBEq, Int.reduceGE, Int.reduceEq, Int.reduceAdd, Nat.reduceLeDiff, f5]; rfl) ?_
    refine WS_ret ⟨_, by simp only [go_sem, eRun_exit, Nat.reduceAdd, Nat.reduceLT, Nat.reduceEqDiff, reduceIte, reduceCtorEq, Int.reduceLT, Int.reduceBEq, Int.reduceGE, Int.reduceEq, Int.reduceAdd, Nat.reduceLeDiff, k_ref8_vars]; rfl, ?_⟩
    exact h w ov S h1 h2 h3
end Go.Proofs.Ytjidefnbancmfaa

/- Plans: there is always one to take. -/
set_option linter.unusedVariables false
set_option linter.unusedSimpArgs false
namespace Delphi
theorem all_in : ∀ (n : Nat) (l : List Nat), (∀ i, i < n → i ∈ l) → n ≤ l.length
  | 0, l, _ => Nat.zero_le _
  | n + 1, l, h => by
    have h1 := h n (by omega)
    have h2 := all_in n (l.erase n) fun i hi => (List.mem_erase_of_ne (by omega)).2 (h i (by omega))
    rw [List.length_erase_of_mem h1] at h2
    have : 0 < l.length := List.length_pos_of_mem h1
    omega
structure PlInv (body : List Lt) (s : PlSt) : Prop where
  lt : ∀ i ∈ s.1, i < body.length
  bnd : ∀ i ∈ s.1, (litAt body i).kind = 1 → ∀ t ∈ (litAt body i).args, t.kind = 1 → t.name ∈ s.2
  len : s.2.length ≤ 5 * s.1.length
theorem litAt_some {body : List Lt} {i : Nat} {x : Lt} (h : body[i]? = some x) : litAt body i = x := by simp [litAt, h]
theorem mem_newFold {bd : List (List Nat)} : ∀ (l : List Tm) (out : List (List Nat)) (v : List Nat), v ∈ l.foldl (newStep bd) out ↔ v ∈ out ∨ (v ∉ bd ∧ ∃ t ∈ l, t.kind = 1 ∧ t.name = v)
  | [], out, v => by simp
  | t :: l, out, v => by
    rw [List.foldl_cons, mem_newFold l]
    have h : v ∈ newStep bd out t ↔ v ∈ out ∨ (v ∉ bd ∧ t.kind = 1 ∧ t.name = v) := by
      unfold newStep
      split
      · rename_i hc
        rw [List.mem_append, List.mem_singleton]
        constructor
        · rintro (h | rfl)
          · exact .inl h
          · exact .inr ⟨hc.2.1, hc.1, rfl⟩
        · rintro (h | ⟨_, _, rfl⟩)
          · exact .inl h
          · exact .inr rfl
      · rename_i hc
        refine ⟨.inl, ?_⟩
        rintro (h | ⟨h1, h2, rfl⟩)
        · exact h
        · exact Classical.byContradiction fun hn => hc ⟨h2, h1, hn⟩
    rw [h]
    simp only [List.mem_cons, exists_eq_or_imp]
    constructor
    · rintro ((h | ⟨h1, h2⟩) | ⟨h1, h2⟩)
      · exact .inl h
      · exact .inr ⟨h1, .inl h2⟩
      · exact .inr ⟨h1, .inr h2⟩
    · rintro (h | ⟨h1, h2 | h2⟩)
      · exact .inl (.inl h)
      · exact .inl (.inr ⟨h1, h2⟩)
      · exact .inr ⟨h1, h2⟩
theorem mem_newV {bd : List (List Nat)} {x : Lt} {v : List Nat} : v ∈ newV bd x ↔ v ∉ bd ∧ ∃ t ∈ x.args, t.kind = 1 ∧ t.name = v := by
  simp [newV, mem_newFold]
theorem PlInv.nil (body : List Lt) : PlInv body ([], []) := ⟨by simp, by simp, by simp⟩
theorem PlInv.take {body : List Lt} {s : PlSt} {i : Nat} (h : PlInv body s) (hi : i < body.length) (ha : ∀ x ∈ body, x.args.length ≤ 5) : PlInv body (takeP body s i) := by
  obtain ⟨x, hx⟩ : ∃ x, body[i]? = some x := ⟨_, List.getElem?_eq_getElem hi⟩
  refine ⟨fun j hj => ?_, fun j hj hk t ht h1 => ?_, ?_⟩
  · simp only [takeP, List.mem_append, List.mem_singleton] at hj
    rcases hj with hj | rfl
    · exact h.lt j hj
    · exact hi
  · simp only [takeP, List.mem_append, List.mem_singleton] at hj ⊢
    rcases hj with hj | rfl
    · exact .inl (h.bnd j hj hk t ht h1)
    · by_cases hm : t.name ∈ s.2
      · exact .inl hm
      · exact .inr (mem_newV.2 ⟨hm, t, ht, h1, rfl⟩)
  · simp only [takeP, List.length_append, List.length_singleton]
    have h1 := newV_len s.2 (litAt body i)
    have h2 := ha x (List.mem_of_getElem? hx)
    have h3 := h.len
    rw [litAt_some hx] at h1 ⊢
    omega
theorem bndN_full {bd : List (List Nat)} {x : Lt} : bndN bd x = x.args.length ↔ ∀ t ∈ x.args, t.kind = 1 → t.name ∈ bd := by
  rw [bndN, List.countP_eq_length]
  constructor
  · intro h t ht hk
    exact (of_decide_eq_true (h t ht)).resolve_left fun hn => hn hk
  · intro h t ht
    by_cases hk : t.kind = 1
    · exact decide_eq_true (.inr (h t ht hk))
    · exact decide_eq_true (.inl hk)
theorem bndN_le {bd : List (List Nat)} {x : Lt} : bndN bd x ≤ x.args.length := List.countP_le_length
theorem exists_cand {r : Rl} {s : PlSt} (hs : cSafe r = true) (h : PlInv r.body s) (hl : s.1.length < r.body.length) : ∃ i, candB r.body s i = true := by
  have hex : ∃ i, i < r.body.length ∧ i ∉ s.1 := Classical.byContradiction fun hn => by
    have := all_in r.body.length s.1 fun i hi => Classical.byContradiction fun hc => hn ⟨i, hi, hc⟩
    omega
  by_cases hat : ∃ i, i < r.body.length ∧ i ∉ s.1 ∧ (litAt r.body i).kind = 1
  · obtain ⟨i, h1, h2, h3⟩ := hat
    exact ⟨i, decide_eq_true ⟨h1, h2, .inl h3⟩⟩
  · obtain ⟨i, h1, h2⟩ := hex
    obtain ⟨x, hx⟩ : ∃ x, r.body[i]? = some x := ⟨_, List.getElem?_eq_getElem h1⟩
    refine ⟨i, decide_eq_true ⟨h1, h2, .inr ?_⟩⟩
    rw [litAt_some hx]
    have hk : x.kind ≠ 1 := fun hk => hat ⟨i, h1, h2, by rw [litAt_some hx]; exact hk⟩
    refine bndN_full.2 fun t ht h3 => ?_
    have hneed : t.name ∈ rNeed r := mem_rNeed.2 (.inr ⟨x, List.mem_of_getElem? hx, hk, t, ht, h3, rfl⟩)
    have hb : t.name ∈ rBound r := of_decide_eq_true (List.all_eq_true.1 hs _ hneed)
    obtain ⟨y, hy, hyk, t2, ht2, hk2, hn2⟩ := mem_rBound.1 hb
    obtain ⟨j, hj⟩ := List.getElem?_of_mem hy
    have hjl : j < r.body.length := (List.getElem?_eq_some_iff.1 hj).1
    have hjs : j ∈ s.1 := Classical.byContradiction fun hn => hat ⟨j, hjl, hn, by rw [litAt_some hj]; exact hyk⟩
    rw [← hn2]
    have := h.bnd j hjs (by rw [litAt_some hj]; exact hyk) t2 (by rw [litAt_some hj]; exact ht2) hk2
    exact this
end Delphi

/- Plans: the reference's search, atoms. -/
set_option linter.unusedVariables false
set_option maxRecDepth 10000
set_option linter.unusedSimpArgs false
namespace Go.Proofs.Ytjidefnbancmfaa
open Go.AE Delphi
variable {tab : Tab}
def natsC (l : List Nat) : List V := l.map fun n => V.int .i64 (Int.ofNat n)
def doneC (n : Nat) (l : List Nat) : List V := (List.range n).map fun i => V.bool (decide (i ∈ l))
theorem doneC_at {n i : Nat} {l : List Nat} (h : i < n) : (doneC n l)[i]? = some (V.bool (decide (i ∈ l))) := by
  simp [doneC, List.getElem?_map, List.getElem?_range h]
theorem doneC_load {w : AW} {b n i : Nat} {l : List Nat} (h : CB w b (doneC n l)) (hi : i < n) : w.load b i 1 = some [.bool (decide (i ∈ l))] := by
  rw [h.load]
  have e := drop_cons_of (doneC_at (l := l) hi)
  rw [e]; rfl
structure PrS (a w : AW) (T : Nat → Prop) (r : Rl) (hv u : V) (n2 b9 : Nat) (s : PlSt) (ov bv : V) (So Sb : Nat → Prop) : Prop where
  frm : Frm (fun _ => False) a w
  lits : RdL (LtC T) T a u 3 r.body
  rule : CB w n2 [.int .i64 (Int.ofNat r.head.kind), .str r.head.name, hv, u]
  ord : Bt So w ov 1 s.1.length (natsC s.1)
  bnd : Bt Sb w bv 1 s.2.length (strsC s.2)
  done : CB w b9 (doneC r.body.length s.1)
  ge : a.next ≤ n2 ∧ n2 < b9
  sepO : ∀ x, So x → a.next ≤ x ∧ x < w.next ∧ x ≠ n2 ∧ x ≠ b9 ∧ ¬ Sb x
  sepB : ∀ x, Sb x → a.next ≤ x ∧ x < w.next ∧ x ≠ n2 ∧ x ≠ b9
  inv : PlInv r.body s
theorem PrS.ext {a w w2 : AW} {T : Nat → Prop} {r : Rl} {hv u : V} {n2 b9 : Nat} {s : PlSt} {ov bv : V} {So Sb : Nat → Prop} (h : PrS a w T r hv u n2 b9 s ov bv So Sb) (hf : Frm (fun _ => False) w w2) : PrS a w2 T r hv u n2 b9 s ov bv So Sb :=
  have nx := hf.next
  ⟨h.frm.tr hf, h.lits, h.rule.frm hf fun h => h, h.ord.frm hf fun _ _ h => h, h.bnd.frm hf fun _ _ h => h, h.done.frm hf fun h => h, h.ge, fun x hx => by have h1 := h.sepO x hx; exact ⟨h1.1, by omega, h1.2.2⟩, fun x hx => by have h1 := h.sepB x hx; exact ⟨h1.1, by omega, h1.2.2⟩, h.inv⟩
theorem PrS.lit {a w : AW} {T : Nat → Prop} {r : Rl} {hv u : V} {n2 b9 : Nat} {s : PlSt} {ov bv : V} {So Sb : Nat → Prop} (h : PrS a w T r hv u n2 b9 s ov bv So Sb) {i : Nat} {t : Lt} (hi : r.body[i]? = some t) :
    ∃ b o c v, u = .slice b o r.body.length c ∧ w.load b (o + i * 3) 3 = some [.int .i64 (Int.ofNat t.kind), .str t.name, v] ∧ Rd T w v 3 t.args.length (tmsC t.args) := by
  obtain ⟨b, o, c, v, h1, _, _, h2, _, _, _, h3⟩ := lits_at (h.lits.frm (fun _ _ hl => hl.frm h.frm fun _ _ h => h) h.frm fun _ _ h => h) hi
  exact ⟨b, o, c, v, h1, h2, h3⟩
structure PrF (f : Fr) (n2 b9 n : Nat) (ov bv : V) : Prop where
  f2 : f.get 2 = some (.ptr n2 0)
  f7 : f.get 7 = some ov
  f8 : f.get 8 = some bv
  f9 : f.get 9 = some (.slice b9 0 n (.known n))
def BestTo (body : List Lt) (s : PlSt) (i : Nat) (f : Fr) : Prop :=
  (f.get 10 = some (.int .i64 (-1)) ∧ f.get 11 = some (.int .i64 (-1)) ∧ ∀ j, j < i → candB body s j = false) ∨
  ∃ b, f.get 10 = some (.int .i64 (Int.ofNat b)) ∧ f.get 11 = some (.int .i64 (Int.ofNat (bndN s.2 (litAt body b)))) ∧ candB body s b = true ∧ (litAt body b).kind = 1 ∧ b < i ∧ ∀ j, j < i → candB body s j = true → j ≠ b → lessK (keyP body s b) (keyP body s j) = true
def F1I (a : AW) (T : Nat → Prop) (r : Rl) (hv u : V) (n2 b9 : Nat) (s : PlSt) (ov bv : V) (So Sb : Nat → Prop) (q : Nat) (f : Fr) (w : AW) : Prop :=
  ∃ i, PrF f n2 b9 r.body.length ov bv ∧ f.get 12 = some (.int .i64 (Int.ofNat i)) ∧ i ≤ r.body.length ∧ q = r.body.length - i ∧ PrS a w T r hv u n2 b9 s ov bv So Sb ∧ BestTo r.body s i f ∧ ∀ j, j < i → candB r.body s j = true → (litAt r.body j).kind = 1
def F1J (a : AW) (T : Nat → Prop) (r : Rl) (hv u : V) (n2 b9 : Nat) (s : PlSt) (ov bv : V) (So Sb : Nat → Prop) (f : Fr) (w : AW) : Prop :=
  PrF f n2 b9 r.body.length ov bv ∧ PrS a w T r hv u n2 b9 s ov bv So Sb ∧ (∃ x, f.get 10 = some x) ∧ ((∃ i, candB r.body s i = true ∧ (litAt r.body i).kind ≠ 1) ∨ (∀ j, candB r.body s j = false) ∨ ∃ b, f.get 10 = some (.int .i64 (Int.ofNat b)) ∧ IsBest r.body s b)
theorem not_cand {body : List Lt} {s : PlSt} {i : Nat} (h : ¬ (i < body.length ∧ i ∉ s.1 ∧ ((litAt body i).kind = 1 ∨ bndN s.2 (litAt body i) = (litAt body i).args.length))) : candB body s i = false := decide_eq_false h
/-- one more place, atoms. -/
theorem f1_step (C : Codes tab) {a w : AW} {T : Nat → Prop} {r : Rl} {hv u : V} {n2 b9 : Nat} {s : PlSt} {ov bv : V} {So Sb : Nat → Prop} {q : Nat} {f : Fr} {st : List SI} {Q : Fr → AW → Prop} (hbd : RBr r) (hol : s.1.length ≤ 100)
    (hI : F1I a T r hv u n2 b9 s ov bv So Sb q f w) (ih : ∀ n' f' w', n' < q → F1I a T r hv u n2 b9 s ov bv So Sb n' f' w' → WS tab (.code (.loop k_ref8_Plan_p9) :: .endB 2 :: st) f' w' Q)
    (out : ∀ s' f' w', F1J a T r hv u n2 b9 s ov bv So Sb f' w' → popTo 2 s' = some st → WS tab (.code (.exit 2) :: s') f' w' Q) : WS tab (.code k_ref8_Plan_p9 :: .code (.loop k_ref8_Plan_p9) :: .endB 2 :: st) f w Q := by
  obtain ⟨i, ⟨f2, f7, f8, f9⟩, f12, hi, rfl, hA, hB, hat⟩ := hI
  have hlv := rdL_lenV hA.lits
  have ld3 : w.load n2 3 1 = some [u] := by rw [hA.rule.load]; rfl
  by_cases hlt : i < r.body.length
  case neg =>
    have e : i = r.body.length := by omega
    refine WS_runB 1000 (by simp only [go_sem, Nat.reduceAdd, Nat.reduceLT, Nat.reduceEqDiff, reduceIte, reduceCtorEq, Nat.reduceLeDiff, k_ref8_Plan_p9, f2, f12, ld3, hlv, hlt]; rfl) ?_
    refine out _ _ _ ⟨⟨(by simp only [go_sem, eRun_exit, Nat.reduceAdd, Nat.reduceLT, Nat.reduceEqDiff, reduceIte, reduceCtorEq, Nat.reduceLeDiff, f2] <;> rfl), (by simp only [go_sem, eRun_exit, Nat.reduceAdd, Nat.reduceLT, Nat.reduceEqDiff, reduceIte, reduceCtorEq, Nat.reduceLeDiff, f7] <;> rfl), (by simp only [go_sem, eRun_exit, Nat.reduceAdd, Nat.reduceLT, Nat.reduceEqDiff, reduceIte, reduceCtorEq, Nat.reduceLeDiff, f8] <;> rfl), (by simp only [go_sem, eRun_exit, Nat.reduceAdd, Nat.reduceLT, Nat.reduceEqDiff, reduceIte, reduceCtorEq, Nat.reduceLeDiff, f9] <;> rfl)⟩, hA, ?_, .inr ?_⟩ rfl
    · rcases hB with ⟨h10, _⟩ | ⟨b, h10, _⟩
      · exact ⟨_, (by simp only [go_sem, eRun_exit, Nat.reduceAdd, Nat.reduceLT, Nat.reduceEqDiff, reduceIte, reduceCtorEq, Nat.reduceLeDiff, h10] <;> rfl)⟩
      · exact ⟨_, (by simp only [go_sem, eRun_exit, Nat.reduceAdd, Nat.reduceLT, Nat.reduceEqDiff, reduceIte, reduceCtorEq, Nat.reduceLeDiff, h10] <;> rfl)⟩
    · rcases hB with ⟨_, _, h3⟩ | ⟨b, h10, _, h3, _, _, h5⟩
      · refine .inl fun j => ?_
        by_cases hj : j < i
        · exact h3 j hj
        · exact not_cand fun h => hj (by omega)
      · exact .inr ⟨b, (by simp only [go_sem, eRun_exit, Nat.reduceAdd, Nat.reduceLT, Nat.reduceEqDiff, reduceIte, reduceCtorEq, Nat.reduceLeDiff, h10] <;> rfl), h3, fun j hj hn => h5 j (by have := candB_lt hj; omega) hj hn⟩
  obtain ⟨t, ht⟩ : ∃ t, r.body[i]? = some t := ⟨_, List.getElem?_eq_getElem hlt⟩
  have hla : litAt r.body i = t := litAt_some ht
  have hargs := hbd.args t (List.mem_of_getElem? ht)
  have hbl := hbd.body
  have hwr : IntKind.wrap .i64 (Int.ofNat i + 1) = Int.ofNat (i + 1) := wrap_succ (by omega)
  obtain ⟨b, o, c, v, rfl, a3, hrv⟩ := hA.lit ht
  have hone : allOne [V.int .i64 (Int.ofNat t.kind), .str t.name, v] = true := by rcases hrv.inv with ⟨rfl, _⟩ | ⟨_, _, _, rfl, _⟩ <;> rfl
  obtain ⟨w2, s2, c2, r2, m2⟩ := boxed w (zs := [V.int .i64 0, V.str [], V.nilslice]) (vs := [V.int .i64 (Int.ofNat t.kind), .str t.name, v]) rfl hone
  have hA2 := hA.ext r2
  have k0 : w2.load w.next 0 1 = some [.int .i64 (Int.ofNat t.kind)] := by rw [c2.load]; rfl
  have k3 : w2.load w.next 0 3 = some [.int .i64 (Int.ofNat t.kind), .str t.name, v] := c2.all rfl
  have kd := doneC_load hA2.done hlt
  have sl := hA.inv.len
  by_cases hd : i ∈ s.1
  · have hnc : candB r.body s i = false := not_cand fun h => h.2.1 hd
    rw [decide_eq_true hd] at kd
    refine WS_run 1000 (by simp only [go_sem, eRun_exit, Nat.reduceAdd, Nat.reduceLT, Nat.reduceEqDiff, reduceIte, reduceCtorEq, Nat.reduceLeDiff, k_ref8_Plan_p9, k_ref8_Plan_p8, k_ref8_Plan_p7, f2, f9, f12, ld3, hlv, hlt, a3, s2, kd, Nat.mul_one, Nat.zero_add, hwr, List.length_cons, List.length_nil]; rfl) ?_
    refine ih _ _ _ (by omega) ⟨i + 1, ⟨(by simp only [go_sem, eRun_exit, Nat.reduceAdd, Nat.reduceLT, Nat.reduceEqDiff, reduceIte, reduceCtorEq, Nat.reduceLeDiff, f2] <;> rfl), (by simp only [go_sem, eRun_exit, Nat.reduceAdd, Nat.reduceLT, Nat.reduceEqDiff, reduceIte, reduceCtorEq, Nat.reduceLeDiff, f7] <;> rfl), (by simp only [go_sem, eRun_exit, Nat.reduceAdd, Nat.reduceLT, Nat.reduceEqDiff, reduceIte, reduceCtorEq, Nat.reduceLeDiff, f8] <;> rfl), (by simp only [go_sem, eRun_exit, Nat.reduceAdd, Nat.reduceLT, Nat.reduceEqDiff, reduceIte, reduceCtorEq, Nat.reduceLeDiff, f9] <;> rfl)⟩, (by simp only [go_sem, eRun_exit, Nat.reduceAdd, Nat.reduceLT, Nat.reduceEqDiff, reduceIte, reduceCtorEq, Nat.reduceLeDiff] <;> rfl), by omega, rfl, hA2, ?_, fun j hj hc => ?_⟩
    · rcases hB with ⟨h10, h11, h3⟩ | ⟨b, h10, h11, h3, h4, h5, h6⟩
      · refine .inl ⟨(by simp only [go_sem, eRun_exit, Nat.reduceAdd, Nat.reduceLT, Nat.reduceEqDiff, reduceIte, reduceCtorEq, Nat.reduceLeDiff, h10] <;> rfl), (by simp only [go_sem, eRun_exit, Nat.reduceAdd, Nat.reduceLT, Nat.reduceEqDiff, reduceIte, reduceCtorEq, Nat.reduceLeDiff, h11] <;> rfl), fun j hj => ?_⟩
        by_cases e : j = i
        · subst e; exact hnc
        · exact h3 j (by omega)
      · refine .inr ⟨b, (by simp only [go_sem, eRun_exit, Nat.reduceAdd, Nat.reduceLT, Nat.reduceEqDiff, reduceIte, reduceCtorEq, Nat.reduceLeDiff, h10] <;> rfl), (by simp only [go_sem, eRun_exit, Nat.reduceAdd, Nat.reduceLT, Nat.reduceEqDiff, reduceIte, reduceCtorEq, Nat.reduceLeDiff, h11] <;> rfl), h3, h4, by omega, fun j hj hc hn => ?_⟩
        by_cases e : j = i
        · subst e; rw [hnc] at hc; cases hc
        · exact h6 j (by omega) hc hn
    · by_cases e : j = i
      · subst e; rw [hnc] at hc; cases hc
      · exact hat j (by omega) hc
  rw [decide_eq_false hd] at kd
  have hlt1 : LtC T w2 t [.int .i64 (Int.ofNat t.kind), .str t.name, v] := ⟨v, rfl, hrv.frm r2 fun _ _ h => h⟩
  by_cases hk : t.kind = 1
  case neg =>
    refine WS_run 1000 (by simp only [go_sem, eRun_exit, Nat.reduceAdd, Nat.reduceLT, Nat.reduceEqDiff, reduceIte, reduceCtorEq, Nat.reduceLeDiff, k_ref8_Plan_p9, k_ref8_Plan_p8, k_ref8_Plan_p7, k_ref8_Plan_p4, f2, f9, f12, ld3, hlv, hlt, a3, s2, kd, k0, hk, Nat.mul_one, Nat.zero_add, List.length_cons, List.length_nil]; rfl) ?_
    refine WS_drawn ?_
    refine WDs_run 100 (by simp only [go_sem, eRun_exit, Nat.reduceAdd, Nat.reduceLT, Nat.reduceEqDiff, reduceIte, reduceCtorEq, Nat.reduceLeDiff, f8, k3]; rfl) ?_
    refine WDs_call (by simp only [go_sem, eRun_exit, Nat.reduceAdd, Nat.reduceLT, Nat.reduceEqDiff, reduceIte, reduceCtorEq, Nat.reduceLeDiff]) (by simp only [go_sem, eRun_exit, Nat.reduceAdd, Nat.reduceLT, Nat.reduceEqDiff, reduceIte, reduceCtorEq, Nat.reduceLeDiff]; rfl) ?_
    refine bound_ok C hlt1 hA2.bnd.rd (by omega) (by omega) fun w3 g3 => ?_
    have hA3 := hA2.ext g3
    have c3 := c2.frm g3 fun h => h
    have k2 : w2.load w.next 2 1 = some [v] := by rw [c2.load]; rfl
    have k2' : w3.load w.next 2 1 = some [v] := by rw [c3.load]; rfl
    have hvl := hrv.lenV
    by_cases he : bndN s.2 t = t.args.length
    · have hc : candB r.body s i = true := decide_eq_true ⟨hlt, hd, .inr (by rw [hla]; exact he)⟩
      refine WDs_run 100 (by simp only [go_sem, eRun_exit, Nat.reduceAdd, Nat.reduceLT, Nat.reduceEqDiff, reduceIte, reduceCtorEq, Nat.reduceLeDiff, k2', hvl, he]; rfl) ?_
      refine WDs_nil ⟨(show chkAll _ _ [(4, 2)] from by simp only [go_sem, eRun_exit, Nat.reduceAdd, Nat.reduceLT, Nat.reduceEqDiff, reduceIte, reduceCtorEq, Nat.reduceLeDiff, chkAll, chk, List.reverse_cons, List.reverse_nil, mkStp_fe, mkStp_v, mkStp_0, mkStp_1, List.getElem?_nil, false_or, or_true, or_false, exists_eq', Option.some.injEq, Prod.mk.injEq, Bool.true_eq_false, Bool.false_eq_true, and_true, true_and, implies_true,  k2, k2']), ?_⟩
      refine WS_runB 1000 (by simp only [go_sem, Nat.reduceAdd, Nat.reduceLT, Nat.reduceEqDiff, reduceIte, reduceCtorEq, Nat.reduceLeDiff, f12, k_ref8_Plan_p3]; rfl) ?_
      exact out _ _ _ ⟨⟨(by simp only [go_sem, eRun_exit, Nat.reduceAdd, Nat.reduceLT, Nat.reduceEqDiff, reduceIte, reduceCtorEq, Nat.reduceLeDiff, f2] <;> rfl), (by simp only [go_sem, eRun_exit, Nat.reduceAdd, Nat.reduceLT, Nat.reduceEqDiff, reduceIte, reduceCtorEq, Nat.reduceLeDiff, f7] <;> rfl), (by simp only [go_sem, eRun_exit, Nat.reduceAdd, Nat.reduceLT, Nat.reduceEqDiff, reduceIte, reduceCtorEq, Nat.reduceLeDiff, f8] <;> rfl), (by simp only [go_sem, eRun_exit, Nat.reduceAdd, Nat.reduceLT, Nat.reduceEqDiff, reduceIte, reduceCtorEq, Nat.reduceLeDiff, f9] <;> rfl)⟩, hA3, ⟨_, (by simp only [go_sem, eRun_exit, Nat.reduceAdd, Nat.reduceLT, Nat.reduceEqDiff, reduceIte, reduceCtorEq, Nat.reduceLeDiff] <;> rfl)⟩, .inl ⟨i, hc, by rw [hla]; exact hk⟩⟩ rfl
    · have hnc : candB r.body s i = false := not_cand fun h => by rw [hla] at h; exact h.2.2.elim hk he
      refine WDs_run 100 (by simp only [go_sem, eRun_exit, Nat.reduceAdd, Nat.reduceLT, Nat.reduceEqDiff, reduceIte, reduceCtorEq, Nat.reduceLeDiff, k2', hvl, he]; rfl) ?_
      refine WDs_nil ⟨(show chkAll _ _ [(4, 2)] from by simp only [go_sem, eRun_exit, Nat.reduceAdd, Nat.reduceLT, Nat.reduceEqDiff, reduceIte, reduceCtorEq, Nat.reduceLeDiff, chkAll, chk, List.reverse_cons, List.reverse_nil, mkStp_fe, mkStp_v, mkStp_0, mkStp_1, List.getElem?_nil, false_or, or_true, or_false, exists_eq', Option.some.injEq, Prod.mk.injEq, Bool.true_eq_false, Bool.false_eq_true, and_true, true_and, implies_true,  k2, k2']), ?_⟩
      refine WS_run 1000 (by simp only [go_sem, eRun_exit, Nat.reduceAdd, Nat.reduceLT, Nat.reduceEqDiff, reduceIte, reduceCtorEq, Nat.reduceLeDiff, f12, hwr]; rfl) ?_
      refine ih _ _ _ (by omega) ⟨i + 1, ⟨(by simp only [go_sem, eRun_exit, Nat.reduceAdd, Nat.reduceLT, Nat.reduceEqDiff, reduceIte, reduceCtorEq, Nat.reduceLeDiff, f2] <;> rfl), (by simp only [go_sem, eRun_exit, Nat.reduceAdd, Nat.reduceLT, Nat.reduceEqDiff, reduceIte, reduceCtorEq, Nat.reduceLeDiff, f7] <;> rfl), (by simp only [go_sem, eRun_exit, Nat.reduceAdd, Nat.reduceLT, Nat.reduceEqDiff, reduceIte, reduceCtorEq, Nat.reduceLeDiff, f8] <;> rfl), (by simp only [go_sem, eRun_exit, Nat.reduceAdd, Nat.reduceLT, Nat.reduceEqDiff, reduceIte, reduceCtorEq, Nat.reduceLeDiff, f9] <;> rfl)⟩, (by simp only [go_sem, eRun_exit, Nat.reduceAdd, Nat.reduceLT, Nat.reduceEqDiff, reduceIte, reduceCtorEq, Nat.reduceLeDiff] <;> rfl), by omega, rfl, hA3, ?_, fun j hj hc => ?_⟩
      · rcases hB with ⟨h10, h11, h3⟩ | ⟨b, h10, h11, h3, h4, h5, h6⟩
        · refine .inl ⟨(by simp only [go_sem, eRun_exit, Nat.reduceAdd, Nat.reduceLT, Nat.reduceEqDiff, reduceIte, reduceCtorEq, Nat.reduceLeDiff, h10] <;> rfl), (by simp only [go_sem, eRun_exit, Nat.reduceAdd, Nat.reduceLT, Nat.reduceEqDiff, reduceIte, reduceCtorEq, Nat.reduceLeDiff, h11] <;> rfl), fun j hj => ?_⟩
          by_cases e : j = i
          · subst e; exact hnc
          · exact h3 j (by omega)
        · refine .inr ⟨b, (by simp only [go_sem, eRun_exit, Nat.reduceAdd, Nat.reduceLT, Nat.reduceEqDiff, reduceIte, reduceCtorEq, Nat.reduceLeDiff, h10] <;> rfl), (by simp only [go_sem, eRun_exit, Nat.reduceAdd, Nat.reduceLT, Nat.reduceEqDiff, reduceIte, reduceCtorEq, Nat.reduceLeDiff, h11] <;> rfl), h3, h4, by omega, fun j hj hc hn => ?_⟩
          by_cases e : j = i
          · subst e; rw [hnc] at hc; cases hc
          · exact h6 j (by omega) hc hn
      · by_cases e : j = i
        · subst e; rw [hnc] at hc; cases hc
        · exact hat j (by omega) hc
  · have hc : candB r.body s i = true := decide_eq_true ⟨hlt, hd, .inl (by rw [hla]; exact hk)⟩
    have hki : (litAt r.body i).kind = 1 := by rw [hla]; exact hk
    have kyi : keyP r.body s i = (true, bndN s.2 t, i) := by simp [keyP, hla, hk]
    have k0' : w2.load w.next 0 1 = some [.int .i64 1] := by rw [k0, hk]; rfl
    have hat' : ∀ j, j < i + 1 → candB r.body s j = true → (litAt r.body j).kind = 1 := by
      intro j hj hc
      by_cases e : j = i
      · subst e; exact hki
      · exact hat j (by omega) hc
    have kyj : ∀ j, (litAt r.body j).kind = 1 → keyP r.body s j = (true, bndN s.2 (litAt r.body j), j) := fun j hj => by simp [keyP, hj]
    refine WS_run 1000 (by simp only [go_sem, eRun_exit, Nat.reduceAdd, Nat.reduceLT, Nat.reduceEqDiff, reduceIte, reduceCtorEq, Nat.reduceLeDiff, k_ref8_Plan_p9, k_ref8_Plan_p8, k_ref8_Plan_p7, k_ref8_Plan_p6, f2, f8, f9, f12, ld3, hlv, hlt, a3, s2, kd, k0', k3, Nat.mul_one, Nat.zero_add, List.length_cons, List.length_nil]; rfl) ?_
    refine WS_call (by simp only [go_sem, eRun_exit, Nat.reduceAdd, Nat.reduceLT, Nat.reduceEqDiff, reduceIte, reduceCtorEq, Nat.reduceLeDiff]) (by simp only [go_sem, eRun_exit, Nat.reduceAdd, Nat.reduceLT, Nat.reduceEqDiff, reduceIte, reduceCtorEq, Nat.reduceLeDiff]; rfl) ?_
    refine bound_ok C hlt1 hA2.bnd.rd (by omega) (by omega) fun w3 g3 => ?_
    have hA3 := hA2.ext g3
    have c3 := c2.frm g3 fun h => h
    have k3' : w3.load w.next 0 3 = some [.int .i64 (Int.ofNat t.kind), .str t.name, v] := c3.all rfl
    have hlt3 : LtC T w3 t [.int .i64 (Int.ofNat t.kind), .str t.name, v] := hlt1.frm g3 fun _ _ h => h
    -- a better one
    have better : ∀ {fr : Fr}, PrF fr n2 b9 r.body.length ov bv → fr.get 12 = some (.int .i64 (Int.ofNat i)) → fr.get 13 = some (.ptr w.next 0) → (∀ j, j < i → candB r.body s j = true → lessK (keyP r.body s i) (keyP r.body s j) = true) →
        WS tab (.code k_ref8_Plan_p5 :: .endB 3 :: .code (.region [⟨some 76, none, .mov (.tmp 12)⟩, ⟨some 77, none, .bin .add (.tmp 76) (.const (.int .i64 1))⟩, ⟨some 12, none, .mov (.tmp 77)⟩]) :: .code (.loop k_ref8_Plan_p9) :: .endB 2 :: st) fr w3 Q := by
      rintro fr ⟨f2, f7, f8, f9⟩ f12 f13 hless
      refine WS_run 1000 (by simp only [go_sem, eRun_exit, Nat.reduceAdd, Nat.reduceLT, Nat.reduceEqDiff, reduceIte, reduceCtorEq, Nat.reduceLeDiff, k_ref8_Plan_p5, f8, f12, f13, k3']; rfl) ?_
      refine WS_call (by simp only [go_sem, eRun_exit, Nat.reduceAdd, Nat.reduceLT, Nat.reduceEqDiff, reduceIte, reduceCtorEq, Nat.reduceLeDiff]) (by simp only [go_sem, eRun_exit, Nat.reduceAdd, Nat.reduceLT, Nat.reduceEqDiff, reduceIte, reduceCtorEq, Nat.reduceLeDiff]; rfl) ?_
      refine bound_ok C hlt3 hA3.bnd.rd (by omega) (by omega) fun w4 g4 => ?_
      have hA4 := hA3.ext g4
      refine WS_run 1000 (by simp only [go_sem, eRun_exit, Nat.reduceAdd, Nat.reduceLT, Nat.reduceEqDiff, reduceIte, reduceCtorEq, Nat.reduceLeDiff, f12, hwr]; rfl) ?_
      refine ih _ _ _ (by omega) ⟨i + 1, ⟨(by simp only [go_sem, eRun_exit, Nat.reduceAdd, Nat.reduceLT, Nat.reduceEqDiff, reduceIte, reduceCtorEq, Nat.reduceLeDiff, f2] <;> rfl), (by simp only [go_sem, eRun_exit, Nat.reduceAdd, Nat.reduceLT, Nat.reduceEqDiff, reduceIte, reduceCtorEq, Nat.reduceLeDiff, f7] <;> rfl), (by simp only [go_sem, eRun_exit, Nat.reduceAdd, Nat.reduceLT, Nat.reduceEqDiff, reduceIte, reduceCtorEq, Nat.reduceLeDiff, f8] <;> rfl), (by simp only [go_sem, eRun_exit, Nat.reduceAdd, Nat.reduceLT, Nat.reduceEqDiff, reduceIte, reduceCtorEq, Nat.reduceLeDiff, f9] <;> rfl)⟩, (by simp only [go_sem, eRun_exit, Nat.reduceAdd, Nat.reduceLT, Nat.reduceEqDiff, reduceIte, reduceCtorEq, Nat.reduceLeDiff] <;> rfl), by omega, rfl, hA4, .inr ⟨i, (by simp only [go_sem, eRun_exit, Nat.reduceAdd, Nat.reduceLT, Nat.reduceEqDiff, reduceIte, reduceCtorEq, Nat.reduceLeDiff] <;> rfl), by rw [hla]; exact (by simp only [go_sem, eRun_exit, Nat.reduceAdd, Nat.reduceLT, Nat.reduceEqDiff, reduceIte, reduceCtorEq, Nat.reduceLeDiff] <;> rfl), hc, hki, by omega, fun j hj hcj hn => hless j (by omega) hcj⟩, hat'⟩
    rcases hB with ⟨h10, h11, h3⟩ | ⟨b, h10, h11, h3, h4, h5, h6⟩
    · have hgm : decide (Int.ofNat (bndN s.2 t) > (-1 : Int)) = true := decide_eq_true (by have : Int.ofNat (bndN s.2 t) = (bndN s.2 t : Int) := rfl; omega)
      refine WS_runB 1000 (by simp only [go_sem, eRun_exit, Nat.reduceAdd, Nat.reduceLT, Nat.reduceEqDiff, reduceIte, reduceCtorEq, Nat.reduceLeDiff, h11, hgm]; rfl) ?_
      refine better ⟨(by simp only [go_sem, eRun_exit, Nat.reduceAdd, Nat.reduceLT, Nat.reduceEqDiff, reduceIte, reduceCtorEq, Nat.reduceLeDiff, f2] <;> rfl), (by simp only [go_sem, eRun_exit, Nat.reduceAdd, Nat.reduceLT, Nat.reduceEqDiff, reduceIte, reduceCtorEq, Nat.reduceLeDiff, f7] <;> rfl), (by simp only [go_sem, eRun_exit, Nat.reduceAdd, Nat.reduceLT, Nat.reduceEqDiff, reduceIte, reduceCtorEq, Nat.reduceLeDiff, f8] <;> rfl), (by simp only [go_sem, eRun_exit, Nat.reduceAdd, Nat.reduceLT, Nat.reduceEqDiff, reduceIte, reduceCtorEq, Nat.reduceLeDiff, f9] <;> rfl)⟩ (by simp only [go_sem, eRun_exit, Nat.reduceAdd, Nat.reduceLT, Nat.reduceEqDiff, reduceIte, reduceCtorEq, Nat.reduceLeDiff, f12] <;> rfl) (by simp only [go_sem, eRun_exit, Nat.reduceAdd, Nat.reduceLT, Nat.reduceEqDiff, reduceIte, reduceCtorEq, Nat.reduceLeDiff] <;> rfl) fun j hj hcj => ?_
      rw [h3 j hj] at hcj; cases hcj
    · by_cases hg : bndN s.2 (litAt r.body b) < bndN s.2 t
      · refine WS_runB 1000 (by simp only [go_sem, eRun_exit, Nat.reduceAdd, Nat.reduceLT, Nat.reduceEqDiff, reduceIte, reduceCtorEq, Nat.reduceLeDiff, h11, hg]; rfl) ?_
        refine better ⟨(by simp only [go_sem, eRun_exit, Nat.reduceAdd, Nat.reduceLT, Nat.reduceEqDiff, reduceIte, reduceCtorEq, Nat.reduceLeDiff, f2] <;> rfl), (by simp only [go_sem, eRun_exit, Nat.reduceAdd, Nat.reduceLT, Nat.reduceEqDiff, reduceIte, reduceCtorEq, Nat.reduceLeDiff, f7] <;> rfl), (by simp only [go_sem, eRun_exit, Nat.reduceAdd, Nat.reduceLT, Nat.reduceEqDiff, reduceIte, reduceCtorEq, Nat.reduceLeDiff, f8] <;> rfl), (by simp only [go_sem, eRun_exit, Nat.reduceAdd, Nat.reduceLT, Nat.reduceEqDiff, reduceIte, reduceCtorEq, Nat.reduceLeDiff, f9] <;> rfl)⟩ (by simp only [go_sem, eRun_exit, Nat.reduceAdd, Nat.reduceLT, Nat.reduceEqDiff, reduceIte, reduceCtorEq, Nat.reduceLeDiff, f12] <;> rfl) (by simp only [go_sem, eRun_exit, Nat.reduceAdd, Nat.reduceLT, Nat.reduceEqDiff, reduceIte, reduceCtorEq, Nat.reduceLeDiff] <;> rfl) fun j hj hcj => ?_
        have kb : lessK (keyP r.body s i) (keyP r.body s b) = true := by
          rw [kyi, kyj b h4, lessK_iff]
          exact .inr ⟨rfl, .inl hg⟩
        by_cases e : j = b
        · subst e; exact kb
        · exact lessK_trans kb (h6 j hj hcj e)
      · refine WS_run 1000 (by simp only [go_sem, eRun_exit, Nat.reduceAdd, Nat.reduceLT, Nat.reduceEqDiff, reduceIte, reduceCtorEq, Nat.reduceLeDiff, h11, hg, f12, hwr]; rfl) ?_
        refine ih _ _ _ (by omega) ⟨i + 1, ⟨(by simp only [go_sem, eRun_exit, Nat.reduceAdd, Nat.reduceLT, Nat.reduceEqDiff, reduceIte, reduceCtorEq, Nat.reduceLeDiff, f2] <;> rfl), (by simp only [go_sem, eRun_exit, Nat.reduceAdd, Nat.reduceLT, Nat.reduceEqDiff, reduceIte, reduceCtorEq, Nat.reduceLeDiff, f7] <;> rfl), (by simp only [go_sem, eRun_exit, Nat.reduceAdd, Nat.reduceLT, Nat.reduceEqDiff, reduceIte, reduceCtorEq, Nat.reduceLeDiff, f8] <;> rfl), (by simp only [go_sem, eRun_exit, Nat.reduceAdd, Nat.reduceLT, Nat.reduceEqDiff, reduceIte, reduceCtorEq, Nat.reduceLeDiff, f9] <;> rfl)⟩, (by simp only [go_sem, eRun_exit, Nat.reduceAdd, Nat.reduceLT, Nat.reduceEqDiff, reduceIte, reduceCtorEq, Nat.reduceLeDiff] <;> rfl), by omega, rfl, hA3, .inr ⟨b, (by simp only [go_sem, eRun_exit, Nat.reduceAdd, Nat.reduceLT, Nat.reduceEqDiff, reduceIte, reduceCtorEq, Nat.reduceLeDiff, h10] <;> rfl), (by simp only [go_sem, eRun_exit, Nat.reduceAdd, Nat.reduceLT, Nat.reduceEqDiff, reduceIte, reduceCtorEq, Nat.reduceLeDiff, h11] <;> rfl), h3, h4, by omega, fun j hj hcj hn => ?_⟩, hat'⟩
        by_cases e : j = i
        · subst e
          rw [kyi, kyj b h4, lessK_iff]
          refine .inr ⟨rfl, ?_⟩
          simp only
          omega
        · exact h6 j (by omega) hcj hn
end Go.Proofs.Ytjidefnbancmfaa

/- Plans: the reference's search, the others; one step. -/
set_option linter.unusedVariables false
set_option maxRecDepth 10000
set_option linter.unusedSimpArgs false
namespace Go.Proofs.Ytjidefnbancmfaa
open Go.AE Delphi
variable {tab : Tab}
def F2I (a : AW) (T : Nat → Prop) (r : Rl) (hv u : V) (n2 b9 : Nat) (s : PlSt) (ov bv : V) (So Sb : Nat → Prop) (q : Nat) (f : Fr) (w : AW) : Prop :=
  ∃ i x, PrF f n2 b9 r.body.length ov bv ∧ f.get 10 = some x ∧ f.get 14 = some (.int .i64 (Int.ofNat i)) ∧ i ≤ r.body.length ∧ q = r.body.length - i ∧ PrS a w T r hv u n2 b9 s ov bv So Sb ∧ ((∃ i, candB r.body s i = true ∧ (litAt r.body i).kind ≠ 1) ∨ ∃ b, x = .int .i64 (Int.ofNat b) ∧ IsBest r.body s b) ∧ ∀ j, j < i → candB r.body s j = true → (litAt r.body j).kind = 1
def F2J (a : AW) (T : Nat → Prop) (r : Rl) (hv u : V) (n2 b9 : Nat) (s : PlSt) (ov bv : V) (So Sb : Nat → Prop) (f : Fr) (w : AW) : Prop :=
  PrF f n2 b9 r.body.length ov bv ∧ PrS a w T r hv u n2 b9 s ov bv So Sb ∧ ∃ b, f.get 10 = some (.int .i64 (Int.ofNat b)) ∧ IsBest r.body s b
theorem first_best {body : List Lt} {s : PlSt} {i : Nat} (hc : candB body s i = true) (hk : (litAt body i).kind ≠ 1) (h : ∀ j, j < i → candB body s j = true → (litAt body j).kind = 1) : IsBest body s i := by
  refine ⟨hc, fun j hj hn => ?_⟩
  rw [lessK_iff]
  by_cases hkj : (litAt body j).kind = 1
  · exact .inl ⟨by simp [keyP, hk], by simp [keyP, hkj]⟩
  · refine .inr ⟨by simp [keyP, hk, hkj], .inr ⟨by simp [keyP, hk, hkj], ?_⟩⟩
    show i < j
    by_cases hji : j < i
    · exact absurd (h j hji hj) hkj
    · omega
/-- one more place, the others. -/
theorem f2_step (C : Codes tab) {a w : AW} {T : Nat → Prop} {r : Rl} {hv u : V} {n2 b9 : Nat} {s : PlSt} {ov bv : V} {So Sb : Nat → Prop} {q : Nat} {f : Fr} {st : List SI} {Q : Fr → AW → Prop} (hbd : RBr r) (hol : s.1.length ≤ 100)
    (hI : F2I a T r hv u n2 b9 s ov bv So Sb q f w) (ih : ∀ n' f' w', n' < q → F2I a T r hv u n2 b9 s ov bv So Sb n' f' w' → WS tab (.code (.loop k_ref8_Plan_p13) :: .endB 4 :: st) f' w' Q)
    (out : ∀ s' f' w', F2J a T r hv u n2 b9 s ov bv So Sb f' w' → popTo 4 s' = some st → WS tab (.code (.exit 4) :: s') f' w' Q) : WS tab (.code k_ref8_Plan_p13 :: .code (.loop k_ref8_Plan_p13) :: .endB 4 :: st) f w Q := by
  obtain ⟨i, x10, ⟨f2, f7, f8, f9⟩, f10, f14, hi, rfl, hA, hB, hat⟩ := hI
  have hlv := rdL_lenV hA.lits
  have ld3 : w.load n2 3 1 = some [u] := by rw [hA.rule.load]; rfl
  by_cases hlt : i < r.body.length
  case neg =>
    refine WS_runB 1000 (by simp only [go_sem, Nat.reduceAdd, Nat.reduceLT, Nat.reduceEqDiff, reduceIte, reduceCtorEq, Int.reduceBEq, Int.reduceBNe, Int.reduceLT, Int.reduceLE, Int.reduceGT, Int.reduceGE, Int.reduceEq, Int.reduceAdd, Int.reduceSub, Int.reduceMul, Nat.reduceMul, Nat.reduceSub, Nat.reduceLeDiff, k_ref8_Plan_p13, f2, f14, ld3, hlv, hlt]; rfl) ?_
    refine out _ _ _ ⟨⟨(by simp only [go_sem, eRun_exit, Nat.reduceAdd, Nat.reduceLT, Nat.reduceEqDiff, reduceIte, reduceCtorEq, Int.reduceBEq, Int.reduceBNe, Int.reduceLT, Int.reduceLE, Int.reduceGT, Int.reduceGE, Int.reduceEq, Int.reduceAdd, Int.reduceSub, Int.reduceMul, Nat.reduceMul, Nat.reduceSub, Nat.reduceLeDiff, f2] <;> rfl), (by simp only [go_sem, eRun_exit, Nat.reduceAdd, Nat.reduceLT, Nat.reduceEqDiff, reduceIte, reduceCtorEq, Int.reduceBEq, Int.reduceBNe, Int.reduceLT, Int.reduceLE, Int.reduceGT, Int.reduceGE, Int.reduceEq, Int.reduceAdd, Int.reduceSub, Int.reduceMul, Nat.reduceMul, Nat.reduceSub, Nat.reduceLeDiff, f7] <;> rfl), (by simp only [go_sem, eRun_exit, Nat.reduceAdd, Nat.reduceLT, Nat.reduceEqDiff, reduceIte, reduceCtorEq, Int.reduceBEq, Int.reduceBNe, Int.reduceLT, Int.reduceLE, Int.reduceGT, Int.reduceGE, Int.reduceEq, Int.reduceAdd, Int.reduceSub, Int.reduceMul, Nat.reduceMul, Nat.reduceSub, Nat.reduceLeDiff, f8] <;> rfl), (by simp only [go_sem, eRun_exit, Nat.reduceAdd, Nat.reduceLT, Nat.reduceEqDiff, reduceIte, reduceCtorEq, Int.reduceBEq, Int.reduceBNe, Int.reduceLT, Int.reduceLE, Int.reduceGT, Int.reduceGE, Int.reduceEq, Int.reduceAdd, Int.reduceSub, Int.reduceMul, Nat.reduceMul, Nat.reduceSub, Nat.reduceLeDiff, f9] <;> rfl)⟩, hA, ?_⟩ rfl
    rcases hB with ⟨j, hj, hk⟩ | ⟨b, rfl, hb⟩
    · exact absurd (hat j (by have := candB_lt hj; omega) hj) hk
    · exact ⟨b, (by simp only [go_sem, eRun_exit, Nat.reduceAdd, Nat.reduceLT, Nat.reduceEqDiff, reduceIte, reduceCtorEq, Int.reduceBEq, Int.reduceBNe, Int.reduceLT, Int.reduceLE, Int.reduceGT, Int.reduceGE, Int.reduceEq, Int.reduceAdd, Int.reduceSub, Int.reduceMul, Nat.reduceMul, Nat.reduceSub, Nat.reduceLeDiff, f10] <;> rfl), hb⟩
  obtain ⟨t, ht⟩ : ∃ t, r.body[i]? = some t := ⟨_, List.getElem?_eq_getElem hlt⟩
  have hla : litAt r.body i = t := litAt_some ht
  have hargs := hbd.args t (List.mem_of_getElem? ht)
  have hbl := hbd.body
  have hwr : IntKind.wrap .i64 (Int.ofNat i + 1) = Int.ofNat (i + 1) := wrap_succ (by omega)
  obtain ⟨b, o, c, v, rfl, a3, hrv⟩ := hA.lit ht
  have hone : allOne [V.int .i64 (Int.ofNat t.kind), .str t.name, v] = true := by rcases hrv.inv with ⟨rfl, _⟩ | ⟨_, _, _, rfl, _⟩ <;> rfl
  obtain ⟨w2, s2, c2, r2, m2⟩ := boxed w (zs := [V.int .i64 0, V.str [], V.nilslice]) (vs := [V.int .i64 (Int.ofNat t.kind), .str t.name, v]) rfl hone
  have hA2 := hA.ext r2
  have k0 : w2.load w.next 0 1 = some [.int .i64 (Int.ofNat t.kind)] := by rw [c2.load]; rfl
  have k3 : w2.load w.next 0 3 = some [.int .i64 (Int.ofNat t.kind), .str t.name, v] := c2.all rfl
  have kd := doneC_load hA2.done hlt
  have sl := hA.inv.len
  have next : (candB r.body s i = true → (litAt r.body i).kind = 1) → ∀ j, j < i + 1 → candB r.body s j = true → (litAt r.body j).kind = 1 := by
    intro h j hj hc
    by_cases e : j = i
    · subst e; exact h hc
    · exact hat j (by omega) hc
  by_cases hd : i ∈ s.1
  · have hnc : candB r.body s i = false := not_cand fun h => h.2.1 hd
    rw [decide_eq_true hd] at kd
    refine WS_run 1000 (by simp only [go_sem, eRun_exit, Nat.reduceAdd, Nat.reduceLT, Nat.reduceEqDiff, reduceIte, reduceCtorEq, Int.reduceBEq, Int.reduceBNe, Int.reduceLT, Int.reduceLE, Int.reduceGT, Int.reduceGE, Int.reduceEq, Int.reduceAdd, Int.reduceSub, Int.reduceMul, Nat.reduceMul, Nat.reduceSub, Nat.reduceLeDiff, k_ref8_Plan_p13, k_ref8_Plan_p12, k_ref8_Plan_p11, f2, f9, f14, ld3, hlv, hlt, a3, s2, Nat.mul_one, Nat.zero_add, List.length_cons, List.length_nil]; rfl) ?_
    refine WS_drawn ?_
    refine WDs_run 100 (by simp only [go_sem, eRun_exit, Nat.reduceAdd, Nat.reduceLT, Nat.reduceEqDiff, reduceIte, reduceCtorEq, Int.reduceBEq, Int.reduceBNe, Int.reduceLT, Int.reduceLE, Int.reduceGT, Int.reduceGE, Int.reduceEq, Int.reduceAdd, Int.reduceSub, Int.reduceMul, Nat.reduceMul, Nat.reduceSub, Nat.reduceLeDiff, f9, f14, hlt, kd, Nat.mul_one, Nat.zero_add]; rfl) ?_
    refine WDs_nil ⟨(show chkAll _ _ [(15, 13)] from by simp only [go_sem, eRun_exit, Nat.reduceAdd, Nat.reduceLT, Nat.reduceEqDiff, reduceIte, reduceCtorEq, Int.reduceBEq, Int.reduceBNe, Int.reduceLT, Int.reduceLE, Int.reduceGT, Int.reduceGE, Int.reduceEq, Int.reduceAdd, Int.reduceSub, Int.reduceMul, Nat.reduceMul, Nat.reduceSub, Nat.reduceLeDiff, chkAll, chk, List.reverse_cons, List.reverse_nil, mkStp_fe, mkStp_v, mkStp_0, mkStp_1, List.getElem?_nil, false_or, or_true, or_false, exists_eq', Option.some.injEq, Prod.mk.injEq, Bool.true_eq_false, Bool.false_eq_true, and_true, true_and, implies_true,  true_or]), ?_⟩
    refine WS_run 1000 (by simp only [go_sem, eRun_exit, Nat.reduceAdd, Nat.reduceLT, Nat.reduceEqDiff, reduceIte, reduceCtorEq, Int.reduceBEq, Int.reduceBNe, Int.reduceLT, Int.reduceLE, Int.reduceGT, Int.reduceGE, Int.reduceEq, Int.reduceAdd, Int.reduceSub, Int.reduceMul, Nat.reduceMul, Nat.reduceSub, Nat.reduceLeDiff, f14, hwr]; rfl) ?_
    exact ih _ _ _ (by omega) ⟨i + 1, x10, ⟨(by simp only [go_sem, eRun_exit, Nat.reduceAdd, Nat.reduceLT, Nat.reduceEqDiff, reduceIte, reduceCtorEq, Int.reduceBEq, Int.reduceBNe, Int.reduceLT, Int.reduceLE, Int.reduceGT, Int.reduceGE, Int.reduceEq, Int.reduceAdd, Int.reduceSub, Int.reduceMul, Nat.reduceMul, Nat.reduceSub, Nat.reduceLeDiff, f2] <;> rfl), (by simp only [go_sem, eRun_exit, Nat.reduceAdd, Nat.reduceLT, Nat.reduceEqDiff, reduceIte, reduceCtorEq, Int.reduceBEq, Int.reduceBNe, Int.reduceLT, Int.reduceLE, Int.reduceGT, Int.reduceGE, Int.reduceEq, Int.reduceAdd, Int.reduceSub, Int.reduceMul, Nat.reduceMul, Nat.reduceSub, Nat.reduceLeDiff, f7] <;> rfl), (by simp only [go_sem, eRun_exit, Nat.reduceAdd, Nat.reduceLT, Nat.reduceEqDiff, reduceIte, reduceCtorEq, Int.reduceBEq, Int.reduceBNe, Int.reduceLT, Int.reduceLE, Int.reduceGT, Int.reduceGE, Int.reduceEq, Int.reduceAdd, Int.reduceSub, Int.reduceMul, Nat.reduceMul, Nat.reduceSub, Nat.reduceLeDiff, f8] <;> rfl), (by simp only [go_sem, eRun_exit, Nat.reduceAdd, Nat.reduceLT, Nat.reduceEqDiff, reduceIte, reduceCtorEq, Int.reduceBEq, Int.reduceBNe, Int.reduceLT, Int.reduceLE, Int.reduceGT, Int.reduceGE, Int.reduceEq, Int.reduceAdd, Int.reduceSub, Int.reduceMul, Nat.reduceMul, Nat.reduceSub, Nat.reduceLeDiff, f9] <;> rfl)⟩, (by simp only [go_sem, eRun_exit, Nat.reduceAdd, Nat.reduceLT, Nat.reduceEqDiff, reduceIte, reduceCtorEq, Int.reduceBEq, Int.reduceBNe, Int.reduceLT, Int.reduceLE, Int.reduceGT, Int.reduceGE, Int.reduceEq, Int.reduceAdd, Int.reduceSub, Int.reduceMul, Nat.reduceMul, Nat.reduceSub, Nat.reduceLeDiff, f10] <;> rfl), (by simp only [go_sem, eRun_exit, Nat.reduceAdd, Nat.reduceLT, Nat.reduceEqDiff, reduceIte, reduceCtorEq, Int.reduceBEq, Int.reduceBNe, Int.reduceLT, Int.reduceLE, Int.reduceGT, Int.reduceGE, Int.reduceEq, Int.reduceAdd, Int.reduceSub, Int.reduceMul, Nat.reduceMul, Nat.reduceSub, Nat.reduceLeDiff] <;> rfl), by omega, rfl, hA2, hB, next fun h => by rw [hnc] at h; cases h⟩
  rw [decide_eq_false hd] at kd
  have hlt1 : LtC T w2 t [.int .i64 (Int.ofNat t.kind), .str t.name, v] := ⟨v, rfl, hrv.frm r2 fun _ _ h => h⟩
  by_cases hk : t.kind = 1
  case pos =>
    have k0' : w2.load w.next 0 1 = some [.int .i64 1] := by rw [k0, hk]; rfl
    refine WS_run 1000 (by simp only [go_sem, eRun_exit, Nat.reduceAdd, Nat.reduceLT, Nat.reduceEqDiff, reduceIte, reduceCtorEq, Int.reduceBEq, Int.reduceBNe, Int.reduceLT, Int.reduceLE, Int.reduceGT, Int.reduceGE, Int.reduceEq, Int.reduceAdd, Int.reduceSub, Int.reduceMul, Nat.reduceMul, Nat.reduceSub, Nat.reduceLeDiff, k_ref8_Plan_p13, k_ref8_Plan_p12, k_ref8_Plan_p11, f2, f9, f14, ld3, hlv, hlt, a3, s2, Nat.mul_one, Nat.zero_add, List.length_cons, List.length_nil]; rfl) ?_
    refine WS_drawn ?_
    refine WDs_run 100 (by simp only [go_sem, eRun_exit, Nat.reduceAdd, Nat.reduceLT, Nat.reduceEqDiff, reduceIte, reduceCtorEq, Int.reduceBEq, Int.reduceBNe, Int.reduceLT, Int.reduceLE, Int.reduceGT, Int.reduceGE, Int.reduceEq, Int.reduceAdd, Int.reduceSub, Int.reduceMul, Nat.reduceMul, Nat.reduceSub, Nat.reduceLeDiff, f9, f14, hlt, kd, k0', Nat.mul_one, Nat.zero_add]; rfl) ?_
    refine WDs_nil ⟨(show chkAll _ _ [(15, 13)] from by simp only [go_sem, eRun_exit, Nat.reduceAdd, Nat.reduceLT, Nat.reduceEqDiff, reduceIte, reduceCtorEq, Int.reduceBEq, Int.reduceBNe, Int.reduceLT, Int.reduceLE, Int.reduceGT, Int.reduceGE, Int.reduceEq, Int.reduceAdd, Int.reduceSub, Int.reduceMul, Nat.reduceMul, Nat.reduceSub, Nat.reduceLeDiff, chkAll, chk, List.reverse_cons, List.reverse_nil, mkStp_fe, mkStp_v, mkStp_0, mkStp_1, List.getElem?_nil, false_or, or_true, or_false, exists_eq', Option.some.injEq, Prod.mk.injEq, Bool.true_eq_false, Bool.false_eq_true, and_true, true_and, implies_true,  true_or]), ?_⟩
    refine WS_run 1000 (by simp only [go_sem, eRun_exit, Nat.reduceAdd, Nat.reduceLT, Nat.reduceEqDiff, reduceIte, reduceCtorEq, Int.reduceBEq, Int.reduceBNe, Int.reduceLT, Int.reduceLE, Int.reduceGT, Int.reduceGE, Int.reduceEq, Int.reduceAdd, Int.reduceSub, Int.reduceMul, Nat.reduceMul, Nat.reduceSub, Nat.reduceLeDiff, f14, hwr]; rfl) ?_
    exact ih _ _ _ (by omega) ⟨i + 1, x10, ⟨(by simp only [go_sem, eRun_exit, Nat.reduceAdd, Nat.reduceLT, Nat.reduceEqDiff, reduceIte, reduceCtorEq, Int.reduceBEq, Int.reduceBNe, Int.reduceLT, Int.reduceLE, Int.reduceGT, Int.reduceGE, Int.reduceEq, Int.reduceAdd, Int.reduceSub, Int.reduceMul, Nat.reduceMul, Nat.reduceSub, Nat.reduceLeDiff, f2] <;> rfl), (by simp only [go_sem, eRun_exit, Nat.reduceAdd, Nat.reduceLT, Nat.reduceEqDiff, reduceIte, reduceCtorEq, Int.reduceBEq, Int.reduceBNe, Int.reduceLT, Int.reduceLE, Int.reduceGT, Int.reduceGE, Int.reduceEq, Int.reduceAdd, Int.reduceSub, Int.reduceMul, Nat.reduceMul, Nat.reduceSub, Nat.reduceLeDiff, f7] <;> rfl), (by simp only [go_sem, eRun_exit, Nat.reduceAdd, Nat.reduceLT, Nat.reduceEqDiff, reduceIte, reduceCtorEq, Int.reduceBEq, Int.reduceBNe, Int.reduceLT, Int.reduceLE, Int.reduceGT, Int.reduceGE, Int.reduceEq, Int.reduceAdd, Int.reduceSub, Int.reduceMul, Nat.reduceMul, Nat.reduceSub, Nat.reduceLeDiff, f8] <;> rfl), (by simp only [go_sem, eRun_exit, Nat.reduceAdd, Nat.reduceLT, Nat.reduceEqDiff, reduceIte, reduceCtorEq, Int.reduceBEq, Int.reduceBNe, Int.reduceLT, Int.reduceLE, Int.reduceGT, Int.reduceGE, Int.reduceEq, Int.reduceAdd, Int.reduceSub, Int.reduceMul, Nat.reduceMul, Nat.reduceSub, Nat.reduceLeDiff, f9] <;> rfl)⟩, (by simp only [go_sem, eRun_exit, Nat.reduceAdd, Nat.reduceLT, Nat.reduceEqDiff, reduceIte, reduceCtorEq, Int.reduceBEq, Int.reduceBNe, Int.reduceLT, Int.reduceLE, Int.reduceGT, Int.reduceGE, Int.reduceEq, Int.reduceAdd, Int.reduceSub, Int.reduceMul, Nat.reduceMul, Nat.reduceSub, Nat.reduceLeDiff, f10] <;> rfl), (by simp only [go_sem, eRun_exit, Nat.reduceAdd, Nat.reduceLT, Nat.reduceEqDiff, reduceIte, reduceCtorEq, Int.reduceBEq, Int.reduceBNe, Int.reduceLT, Int.reduceLE, Int.reduceGT, Int.reduceGE, Int.reduceEq, Int.reduceAdd, Int.reduceSub, Int.reduceMul, Nat.reduceMul, Nat.reduceSub, Nat.reduceLeDiff] <;> rfl), by omega, rfl, hA2, hB, next fun _ => by rw [hla]; exact hk⟩
  refine WS_run 1000 (by simp only [go_sem, eRun_exit, Nat.reduceAdd, Nat.reduceLT, Nat.reduceEqDiff, reduceIte, reduceCtorEq, Int.reduceBEq, Int.reduceBNe, Int.reduceLT, Int.reduceLE, Int.reduceGT, Int.reduceGE, Int.reduceEq, Int.reduceAdd, Int.reduceSub, Int.reduceMul, Nat.reduceMul, Nat.reduceSub, Nat.reduceLeDiff, k_ref8_Plan_p13, k_ref8_Plan_p12, k_ref8_Plan_p11, f2, f9, f14, ld3, hlv, hlt, a3, s2, Nat.mul_one, Nat.zero_add, List.length_cons, List.length_nil]; rfl) ?_
  refine WS_drawn ?_
  refine WDs_run 100 (by simp only [go_sem, eRun_exit, Nat.reduceAdd, Nat.reduceLT, Nat.reduceEqDiff, reduceIte, reduceCtorEq, Int.reduceBEq, Int.reduceBNe, Int.reduceLT, Int.reduceLE, Int.reduceGT, Int.reduceGE, Int.reduceEq, Int.reduceAdd, Int.reduceSub, Int.reduceMul, Nat.reduceMul, Nat.reduceSub, Nat.reduceLeDiff, f8, f9, f14, hlt, kd, k0, hk, k3, Nat.mul_one, Nat.zero_add]; rfl) ?_
  refine WDs_call (by simp only [go_sem, eRun_exit, Nat.reduceAdd, Nat.reduceLT, Nat.reduceEqDiff, reduceIte, reduceCtorEq, Int.reduceBEq, Int.reduceBNe, Int.reduceLT, Int.reduceLE, Int.reduceGT, Int.reduceGE, Int.reduceEq, Int.reduceAdd, Int.reduceSub, Int.reduceMul, Nat.reduceMul, Nat.reduceSub, Nat.reduceLeDiff]) (by simp only [go_sem, eRun_exit, Nat.reduceAdd, Nat.reduceLT, Nat.reduceEqDiff, reduceIte, reduceCtorEq, Int.reduceBEq, Int.reduceBNe, Int.reduceLT, Int.reduceLE, Int.reduceGT, Int.reduceGE, Int.reduceEq, Int.reduceAdd, Int.reduceSub, Int.reduceMul, Nat.reduceMul, Nat.reduceSub, Nat.reduceLeDiff]; rfl) ?_
  refine bound_ok C hlt1 hA2.bnd.rd (by omega) (by omega) fun w3 g3 => ?_
  have hA3 := hA2.ext g3
  have c3 := c2.frm g3 fun h => h
  have k2 : w2.load w.next 2 1 = some [v] := by rw [c2.load]; rfl
  have k2' : w3.load w.next 2 1 = some [v] := by rw [c3.load]; rfl
  have hvl := hrv.lenV
  by_cases he : bndN s.2 t = t.args.length
  · have hc : candB r.body s i = true := decide_eq_true ⟨hlt, hd, .inr (by rw [hla]; exact he)⟩
    refine WDs_run 100 (by simp only [go_sem, eRun_exit, Nat.reduceAdd, Nat.reduceLT, Nat.reduceEqDiff, reduceIte, reduceCtorEq, Int.reduceBEq, Int.reduceBNe, Int.reduceLT, Int.reduceLE, Int.reduceGT, Int.reduceGE, Int.reduceEq, Int.reduceAdd, Int.reduceSub, Int.reduceMul, Nat.reduceMul, Nat.reduceSub, Nat.reduceLeDiff, k2', hvl, he]; rfl) ?_
    refine WDs_nil ⟨(show chkAll _ _ [(15, 13)] from by simp only [go_sem, eRun_exit, Nat.reduceAdd, Nat.reduceLT, Nat.reduceEqDiff, reduceIte, reduceCtorEq, Int.reduceBEq, Int.reduceBNe, Int.reduceLT, Int.reduceLE, Int.reduceGT, Int.reduceGE, Int.reduceEq, Int.reduceAdd, Int.reduceSub, Int.reduceMul, Nat.reduceMul, Nat.reduceSub, Nat.reduceLeDiff, chkAll, chk, List.reverse_cons, List.reverse_nil, mkStp_fe, mkStp_v, mkStp_0, mkStp_1, List.getElem?_nil, false_or, or_true, or_false, exists_eq', Option.some.injEq, Prod.mk.injEq, Bool.true_eq_false, Bool.false_eq_true, and_true, true_and, implies_true,  k2, k2']), ?_⟩
    refine WS_runB 1000 (by simp only [go_sem, Nat.reduceAdd, Nat.reduceLT, Nat.reduceEqDiff, reduceIte, reduceCtorEq, Int.reduceBEq, Int.reduceBNe, Int.reduceLT, Int.reduceLE, Int.reduceGT, Int.reduceGE, Int.reduceEq, Int.reduceAdd, Int.reduceSub, Int.reduceMul, Nat.reduceMul, Nat.reduceSub, Nat.reduceLeDiff, f14, k_ref8_Plan_p10]; rfl) ?_
    exact out _ _ _ ⟨⟨(by simp only [go_sem, eRun_exit, Nat.reduceAdd, Nat.reduceLT, Nat.reduceEqDiff, reduceIte, reduceCtorEq, Int.reduceBEq, Int.reduceBNe, Int.reduceLT, Int.reduceLE, Int.reduceGT, Int.reduceGE, Int.reduceEq, Int.reduceAdd, Int.reduceSub, Int.reduceMul, Nat.reduceMul, Nat.reduceSub, Nat.reduceLeDiff, f2] <;> rfl), (by simp only [go_sem, eRun_exit, Nat.reduceAdd, Nat.reduceLT, Nat.reduceEqDiff, reduceIte, reduceCtorEq, Int.reduceBEq, Int.reduceBNe, Int.reduceLT, Int.reduceLE, Int.reduceGT, Int.reduceGE, Int.reduceEq, Int.reduceAdd, Int.reduceSub, Int.reduceMul, Nat.reduceMul, Nat.reduceSub, Nat.reduceLeDiff, f7] <;> rfl), (by simp only [go_sem, eRun_exit, Nat.reduceAdd, Nat.reduceLT, Nat.reduceEqDiff, reduceIte, reduceCtorEq, Int.reduceBEq, Int.reduceBNe, Int.reduceLT, Int.reduceLE, Int.reduceGT, Int.reduceGE, Int.reduceEq, Int.reduceAdd, Int.reduceSub, Int.reduceMul, Nat.reduceMul, Nat.reduceSub, Nat.reduceLeDiff, f8] <;> rfl), (by simp only [go_sem, eRun_exit, Nat.reduceAdd, Nat.reduceLT, Nat.reduceEqDiff, reduceIte, reduceCtorEq, Int.reduceBEq, Int.reduceBNe, Int.reduceLT, Int.reduceLE, Int.reduceGT, Int.reduceGE, Int.reduceEq, Int.reduceAdd, Int.reduceSub, Int.reduceMul, Nat.reduceMul, Nat.reduceSub, Nat.reduceLeDiff, f9] <;> rfl)⟩, hA3, i, (by simp only [go_sem, eRun_exit, Nat.reduceAdd, Nat.reduceLT, Nat.reduceEqDiff, reduceIte, reduceCtorEq, Int.reduceBEq, Int.reduceBNe, Int.reduceLT, Int.reduceLE, Int.reduceGT, Int.reduceGE, Int.reduceEq, Int.reduceAdd, Int.reduceSub, Int.reduceMul, Nat.reduceMul, Nat.reduceSub, Nat.reduceLeDiff] <;> rfl), first_best hc (by rw [hla]; exact hk) hat⟩ rfl
  · have hnc : candB r.body s i = false := not_cand fun h => by rw [hla] at h; exact h.2.2.elim hk he
    refine WDs_run 100 (by simp only [go_sem, eRun_exit, Nat.reduceAdd, Nat.reduceLT, Nat.reduceEqDiff, reduceIte, reduceCtorEq, Int.reduceBEq, Int.reduceBNe, Int.reduceLT, Int.reduceLE, Int.reduceGT, Int.reduceGE, Int.reduceEq, Int.reduceAdd, Int.reduceSub, Int.reduceMul, Nat.reduceMul, Nat.reduceSub, Nat.reduceLeDiff, k2', hvl, he]; rfl) ?_
    refine WDs_nil ⟨(show chkAll _ _ [(15, 13)] from by simp only [go_sem, eRun_exit, Nat.reduceAdd, Nat.reduceLT, Nat.reduceEqDiff, reduceIte, reduceCtorEq, Int.reduceBEq, Int.reduceBNe, Int.reduceLT, Int.reduceLE, Int.reduceGT, Int.reduceGE, Int.reduceEq, Int.reduceAdd, Int.reduceSub, Int.reduceMul, Nat.reduceMul, Nat.reduceSub, Nat.reduceLeDiff, chkAll, chk, List.reverse_cons, List.reverse_nil, mkStp_fe, mkStp_v, mkStp_0, mkStp_1, List.getElem?_nil, false_or, or_true, or_false, exists_eq', Option.some.injEq, Prod.mk.injEq, Bool.true_eq_false, Bool.false_eq_true, and_true, true_and, implies_true,  k2, k2']), ?_⟩
    refine WS_run 1000 (by simp only [go_sem, eRun_exit, Nat.reduceAdd, Nat.reduceLT, Nat.reduceEqDiff, reduceIte, reduceCtorEq, Int.reduceBEq, Int.reduceBNe, Int.reduceLT, Int.reduceLE, Int.reduceGT, Int.reduceGE, Int.reduceEq, Int.reduceAdd, Int.reduceSub, Int.reduceMul, Nat.reduceMul, Nat.reduceSub, Nat.reduceLeDiff, f14, hwr]; rfl) ?_
    exact ih _ _ _ (by omega) ⟨i + 1, x10, ⟨(by simp only [go_sem, eRun_exit, Nat.reduceAdd, Nat.reduceLT, Nat.reduceEqDiff, reduceIte, reduceCtorEq, Int.reduceBEq, Int.reduceBNe, Int.reduceLT, Int.reduceLE, Int.reduceGT, Int.reduceGE, Int.reduceEq, Int.reduceAdd, Int.reduceSub, Int.reduceMul, Nat.reduceMul, Nat.reduceSub, Nat.reduceLeDiff, f2] <;> rfl), (by simp only [go_sem, eRun_exit, Nat.reduceAdd, Nat.reduceLT, Nat.reduceEqDiff, reduceIte, reduceCtorEq, Int.reduceBEq, Int.reduceBNe, Int.reduceLT, Int.reduceLE, Int.reduceGT, Int.reduceGE, Int.reduceEq, Int.reduceAdd, Int.reduceSub, Int.reduceMul, Nat.reduceMul, Nat.reduceSub, Nat.reduceLeDiff, f7] <;> rfl), (by simp only [go_sem, eRun_exit, Nat.reduceAdd, Nat.reduceLT, Nat.reduceEqDiff, reduceIte, reduceCtorEq, Int.reduceBEq, Int.reduceBNe, Int.reduceLT, Int.reduceLE, Int.reduceGT, Int.reduceGE, Int.reduceEq, Int.reduceAdd, Int.reduceSub, Int.reduceMul, Nat.reduceMul, Nat.reduceSub, Nat.reduceLeDiff, f8] <;> rfl), (by simp only [go_sem, eRun_exit, Nat.reduceAdd, Nat.reduceLT, Nat.reduceEqDiff, reduceIte, reduceCtorEq, Int.reduceBEq, Int.reduceBNe, Int.reduceLT, Int.reduceLE, Int.reduceGT, Int.reduceGE, Int.reduceEq, Int.reduceAdd, Int.reduceSub, Int.reduceMul, Nat.reduceMul, Nat.reduceSub, Nat.reduceLeDiff, f9] <;> rfl)⟩, (by simp only [go_sem, eRun_exit, Nat.reduceAdd, Nat.reduceLT, Nat.reduceEqDiff, reduceIte, reduceCtorEq, Int.reduceBEq, Int.reduceBNe, Int.reduceLT, Int.reduceLE, Int.reduceGT, Int.reduceGE, Int.reduceEq, Int.reduceAdd, Int.reduceSub, Int.reduceMul, Nat.reduceMul, Nat.reduceSub, Nat.reduceLeDiff, f10] <;> rfl), (by simp only [go_sem, eRun_exit, Nat.reduceAdd, Nat.reduceLT, Nat.reduceEqDiff, reduceIte, reduceCtorEq, Int.reduceBEq, Int.reduceBNe, Int.reduceLT, Int.reduceLE, Int.reduceGT, Int.reduceGE, Int.reduceEq, Int.reduceAdd, Int.reduceSub, Int.reduceMul, Nat.reduceMul, Nat.reduceSub, Nat.reduceLeDiff] <;> rfl), by omega, rfl, hA3, hB, next fun h => by rw [hnc] at h; cases h⟩
end Go.Proofs.Ytjidefnbancmfaa

/- Plans: the reference takes one. -/
set_option linter.unusedVariables false
set_option maxRecDepth 10000
set_option linter.unusedSimpArgs false
namespace Go.Proofs.Ytjidefnbancmfaa
open Go.AE Delphi
variable {tab : Tab}
theorem doneC_set {n i : Nat} {l : List Nat} : (doneC n l).set i (V.bool true) = doneC n (l ++ [i]) := by
  apply List.ext_getElem?
  intro j
  rw [List.getElem?_set]
  by_cases hj : j < n
  · by_cases e : i = j
    · subst e
      rw [if_pos rfl, if_pos (by simp [doneC]; exact hj), doneC_at hj]
      simp
    · rw [if_neg e, doneC_at hj, doneC_at hj]
      have : (j ∈ l ++ [i]) ↔ j ∈ l := by simp; omega
      simp only [this]
  · have e1 : (doneC n (l ++ [i]))[j]? = none := List.getElem?_eq_none (by simp [doneC]; omega)
    have e2 : (doneC n l)[j]? = none := List.getElem?_eq_none (by simp [doneC]; omega)
    rw [e1, e2]
    by_cases e : i = j
    · subst e; rw [if_pos rfl, if_neg (by simp [doneC]; omega)]
    · rw [if_neg e]
structure PrM (a w : AW) (T : Nat → Prop) (r : Rl) (hv u : V) (n2 b9 : Nat) (l : List Nat) (bd : List (List Nat)) (ov bv : V) (So Sb : Nat → Prop) : Prop where
  frm : Frm (fun _ => False) a w
  lits : RdL (LtC T) T a u 3 r.body
  rule : CB w n2 [.int .i64 (Int.ofNat r.head.kind), .str r.head.name, hv, u]
  ord : Bt So w ov 1 l.length (natsC l)
  bnd : Bt Sb w bv 1 bd.length (strsC bd)
  done : CB w b9 (doneC r.body.length l)
  ge : a.next ≤ n2 ∧ n2 < b9
  sepO : ∀ x, So x → a.next ≤ x ∧ x < w.next ∧ x ≠ n2 ∧ x ≠ b9 ∧ ¬ Sb x
  sepB : ∀ x, Sb x → a.next ≤ x ∧ x < w.next ∧ x ≠ n2 ∧ x ≠ b9
theorem PrS.m {a w : AW} {T : Nat → Prop} {r : Rl} {hv u : V} {n2 b9 : Nat} {s : PlSt} {ov bv : V} {So Sb : Nat → Prop} (h : PrS a w T r hv u n2 b9 s ov bv So Sb) : PrM a w T r hv u n2 b9 s.1 s.2 ov bv So Sb := ⟨h.frm, h.lits, h.rule, h.ord, h.bnd, h.done, h.ge, h.sepO, h.sepB⟩
theorem PrM.s {a w : AW} {T : Nat → Prop} {r : Rl} {hv u : V} {n2 b9 : Nat} {s : PlSt} {ov bv : V} {So Sb : Nat → Prop} (h : PrM a w T r hv u n2 b9 s.1 s.2 ov bv So Sb) (hi : PlInv r.body s) : PrS a w T r hv u n2 b9 s ov bv So Sb := ⟨h.frm, h.lits, h.rule, h.ord, h.bnd, h.done, h.ge, h.sepO, h.sepB, hi⟩
theorem PrM.ext {a w w2 : AW} {T : Nat → Prop} {r : Rl} {hv u : V} {n2 b9 : Nat} {l : List Nat} {bd : List (List Nat)} {ov bv : V} {So Sb : Nat → Prop} (h : PrM a w T r hv u n2 b9 l bd ov bv So Sb) (hf : Frm (fun _ => False) w w2) : PrM a w2 T r hv u n2 b9 l bd ov bv So Sb :=
  have nx := hf.next
  ⟨h.frm.tr hf, h.lits, h.rule.frm hf fun h => h, h.ord.frm hf fun _ _ h => h, h.bnd.frm hf fun _ _ h => h, h.done.frm hf fun h => h, h.ge, fun x hx => by have h1 := h.sepO x hx; exact ⟨h1.1, by omega, h1.2.2⟩, fun x hx => by have h1 := h.sepB x hx; exact ⟨h1.1, by omega, h1.2.2⟩⟩
theorem PrM.lit {a w : AW} {T : Nat → Prop} {r : Rl} {hv u : V} {n2 b9 : Nat} {l : List Nat} {bd : List (List Nat)} {ov bv : V} {So Sb : Nat → Prop} (h : PrM a w T r hv u n2 b9 l bd ov bv So Sb) {i : Nat} {t : Lt} (hi : r.body[i]? = some t) :
    ∃ b o c v, u = .slice b o r.body.length c ∧ w.load b (o + i * 3) 3 = some [.int .i64 (Int.ofNat t.kind), .str t.name, v] ∧ Rd T w v 3 t.args.length (tmsC t.args) := by
  obtain ⟨b, o, c, v, h1, _, _, h2, _, _, _, h3⟩ := lits_at (h.lits.frm (fun _ _ hl => hl.frm h.frm fun _ _ h => h) h.frm fun _ _ h => h) hi
  exact ⟨b, o, c, v, h1, h2, h3⟩
/-- the place is taken. -/
theorem PrM.take1 {a w : AW} {T : Nat → Prop} {r : Rl} {hv u : V} {n2 b9 i : Nat} {l : List Nat} {bd : List (List Nat)} {ov bv : V} {So Sb : Nat → Prop} (h : PrM a w T r hv u n2 b9 l bd ov bv So Sb) (hi : i < r.body.length) (hl : l.length ≤ 100) :
    ∃ ov' w5 w6 S5, (w.fresh [.int .i64 (Int.ofNat i)]).appendV 1 8 ov 1 [.int .i64 (Int.ofNat i)] = some (ov', w5) ∧ w5.store b9 i [.bool true] = some w6 ∧ PrM a w6 T r hv u n2 b9 (l ++ [i]) bd ov' bv S5 Sb ∧ w.next ≤ w6.next := by
  have hSo : ∀ b, So b → b < w.next := fun b hb => (h.sepO b hb).2.1
  obtain ⟨ov', w5, S5, u1, u2, u3, u4⟩ := h.ord.push (news := [V.int .i64 (Int.ofNat i)]) (bytes := 8) hSo (by omega) rfl rfl (by omega) (by omega)
  have nb : ¬ So b9 := fun hx => (h.sepO _ hx).2.2.2.1 rfl
  have nn : ¬ So n2 := fun hx => (h.sepO _ hx).2.2.1 rfl
  have d5 := h.done.frm u3 nb
  have st := d5.set (i := i) (v := V.bool true) (by simp [doneC]; exact hi) rfl
  rw [doneC_set] at st
  have pf : Frm (fun x => x = b9) w5 (w5.put b9 (doneC r.body.length (l ++ [i]))) := put_frm
  obtain ⟨g1, g2⟩ := h.ge
  have lb := h.done.lt
  have ln := h.rule.lt
  have nx := u3.next
  have hfa := h.frm.next
  have sS5 : ∀ x, S5 x → a.next ≤ x ∧ x < w5.next ∧ x ≠ n2 ∧ x ≠ b9 ∧ ¬ Sb x := by
    intro x hx
    obtain ⟨m1, m2⟩ := u4 x hx
    rcases m2 with m2 | m2
    · have h1 := h.sepO x m2; exact ⟨h1.1, m1, h1.2.2⟩
    · exact ⟨by omega, m1, by omega, by omega, fun hb => by have := (h.sepB x hb).2.1; omega⟩
  refine ⟨ov', w5, _, S5, u1, st, ⟨(h.frm.trans u3 (fun _ _ h => h) fun x hx hs => by have := (h.sepO x hs).1; omega).out (by omega) rfl, h.lits, (h.rule.frm u3 nn).frm pf (by show ¬ n2 = b9; omega), ?_, (h.bnd.frm u3 fun x hx hs => (h.sepO x hs).2.2.2.2 hx).frm pf fun x hx => (h.sepB x hx).2.2.2, put_cb d5.lt, h.ge, fun x hx => sS5 x hx, fun x hx => ?_⟩, nx⟩
  · have e : natsC (l ++ [i]) = natsC l ++ [V.int .i64 (Int.ofNat i)] := by simp [natsC]
    rw [e, List.length_append, List.length_singleton]
    exact u2.frm pf fun x hx => (sS5 x hx).2.2.2.1
  · have h1 := h.sepB x hx
    exact ⟨h1.1, by have : (w5.put b9 (doneC r.body.length (l ++ [i]))).next = w5.next := rfl; omega, h1.2.2⟩
/-- its variables are bound. -/
theorem PrM.take2 {a w : AW} {T : Nat → Prop} {r : Rl} {hv u : V} {n2 b9 k : Nat} {l : List Nat} {bd new : List (List Nat)} {ov bv : V} {So Sb : Nat → Prop} (h : PrM a w T r hv u n2 b9 l bd ov bv So Sb) (hk : new.length = k) (hl : bd.length ≤ 1000) (hk2 : k ≤ 1000) :
    ∃ bv' w8 S8, w.appendV 1 16 bv k (strsC new) = some (bv', w8) ∧ PrM a w8 T r hv u n2 b9 l (bd ++ new) ov bv' So S8 := by
  obtain ⟨bv', w8, S8, u1, u2, u3, u4⟩ := h.bnd.addN (news := strsC new) (k := k) (bytes := 16) (by omega) (by rw [strsC_len]; omega) (strsC_one _) (by omega) (by omega)
  have nx := u3.next
  obtain ⟨g1, g2⟩ := h.ge
  have lb := h.done.lt
  have ln := h.rule.lt
  have hfa := h.frm.next
  refine ⟨bv', w8, S8, u1, h.frm.trans u3 (fun _ _ h => h) (fun x hx hs => by have := (h.sepB x hs).1; omega), h.lits, h.rule.frm u3 (fun hs => (h.sepB _ hs).2.2.1 rfl), h.ord.frm u3 (fun x hx hs => (h.sepO x hx).2.2.2.2 hs), ?_, h.done.frm u3 (fun hs => (h.sepB _ hs).2.2.2 rfl), h.ge, fun x hx => ?_, fun x hx => ?_⟩
  · have e : strsC (bd ++ new) = strsC bd ++ strsC new := by simp [strsC]
    rw [e, List.length_append, hk]; exact u2
  · have h1 := h.sepO x hx
    refine ⟨h1.1, by omega, h1.2.2.1, h1.2.2.2.1, fun h8 => ?_⟩
    obtain ⟨_, m2⟩ := u4 x h8
    rcases m2 with m2 | m2
    · exact h1.2.2.2.2 m2
    · omega
  · obtain ⟨m1, m2⟩ := u4 x hx
    rcases m2 with m2 | m2
    · have h1 := h.sepB x m2; exact ⟨h1.1, m1, h1.2.2⟩
    · exact ⟨by omega, m1, by omega, by omega⟩
/-- one is taken: the loop's. -/
theorem p15_ok (C : Codes tab) {a w : AW} {T : Nat → Prop} {r : Rl} {hv u : V} {n2 b9 i : Nat} {s : PlSt} {ov bv : V} {So Sb : Nat → Prop} {f : Fr} {st : List SI} {Q : Fr → AW → Prop} (hbd : RBr r) (hol : s.1.length ≤ 100)
    (hF : PrF f n2 b9 r.body.length ov bv) (f10 : f.get 10 = some (.int .i64 (Int.ofNat i))) (hA : PrS a w T r hv u n2 b9 s ov bv So Sb) (hi : i < r.body.length)
    (h : ∀ f' w' ov' bv' So' Sb', PrF f' n2 b9 r.body.length ov' bv' → PrS a w' T r hv u n2 b9 (takeP r.body s i) ov' bv' So' Sb' → WS tab st f' w' Q) : WS tab (.code k_ref8_Plan_p15 :: st) f w Q := by
  obtain ⟨f2, f7, f8, f9⟩ := hF
  obtain ⟨t, ht⟩ : ∃ t, r.body[i]? = some t := ⟨_, List.getElem?_eq_getElem hi⟩
  have hla : litAt r.body i = t := litAt_some ht
  have hargs := hbd.args t (List.mem_of_getElem? ht)
  have sl := hA.inv.len
  obtain ⟨ov', w5, w6, S5, u1, u2, hM, n6⟩ := hA.m.take1 hi hol
  have el := elems_fresh (w := w) (esz := 1) (n := 1) (cs := [V.int .i64 (Int.ofNat i)]) (c := .known 1) (by omega) rfl
  have hov : over [V.int .i64 0] 0 [V.int .i64 (Int.ofNat i)] = some [V.int .i64 (Int.ofNat i)] := rfl
  have ld3 : w6.load n2 3 1 = some [u] := by rw [hM.rule.load]; rfl
  obtain ⟨b, o, c, v, rfl, a3, hrv⟩ := hM.lit ht
  refine WS_run 1000 (by simp only [go_sem, eRun_exit, Nat.reduceAdd, Nat.reduceLT, Nat.reduceEqDiff, reduceIte, reduceCtorEq, Nat.reduceLeDiff, k_ref8_Plan_p15, k_ref8_Plan_p14, f2, f7, f8, f9, f10, hi, evParts, fillV, hov, el, u1, u2, ld3, a3, Nat.mul_one, Nat.zero_add, List.length_cons, List.length_nil]; rfl) ?_
  refine WS_call (by simp only [go_sem, eRun_exit, Nat.reduceAdd, Nat.reduceLT, Nat.reduceEqDiff, reduceIte, reduceCtorEq, Nat.reduceLeDiff]) (by simp only [go_sem, eRun_exit, Nat.reduceAdd, Nat.reduceLT, Nat.reduceEqDiff, reduceIte, reduceCtorEq, Nat.reduceLeDiff]; rfl) ?_
  refine rvars_ok C (x := t) ⟨v, rfl, hrv⟩ hM.bnd.rd (by omega) (by omega) fun w7 vv Sv h1 h2 h3 => ?_
  have hM7 := hM.ext h2
  have hel := h1.rd.elems
  have nl := newV_len s.2 t
  obtain ⟨bv', w8, S8, q1, q2⟩ := hM7.take2 (new := newV s.2 t) rfl (by omega) (by omega)
  refine WS_runB 3 (by simp only [go_sem, eRun_exit, Nat.reduceAdd, Nat.reduceLT, Nat.reduceEqDiff, reduceIte, reduceCtorEq, Nat.reduceLeDiff, f8, hel, q1]; rfl) ?_
  refine h _ _ ov' bv' S5 S8 ⟨(by simp only [go_sem, eRun_exit, Nat.reduceAdd, Nat.reduceLT, Nat.reduceEqDiff, reduceIte, reduceCtorEq, Nat.reduceLeDiff, f2] <;> rfl), (by simp only [go_sem, eRun_exit, Nat.reduceAdd, Nat.reduceLT, Nat.reduceEqDiff, reduceIte, reduceCtorEq, Nat.reduceLeDiff] <;> rfl), (by simp only [go_sem, eRun_exit, Nat.reduceAdd, Nat.reduceLT, Nat.reduceEqDiff, reduceIte, reduceCtorEq, Nat.reduceLeDiff] <;> rfl), (by simp only [go_sem, eRun_exit, Nat.reduceAdd, Nat.reduceLT, Nat.reduceEqDiff, reduceIte, reduceCtorEq, Nat.reduceLeDiff, f9] <;> rfl)⟩ (PrM.s (s := takeP r.body s i) ?_ (hA.inv.take hi hbd.args))
  rw [← hla] at q2
  exact q2
end Go.Proofs.Ytjidefnbancmfaa
