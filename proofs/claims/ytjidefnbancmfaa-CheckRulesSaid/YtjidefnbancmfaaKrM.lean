/- A part of the proof: PChk4, PChk5, PChk6, PChk7. -/
import Derived.Test.YtjidefnbancmfaaKrL
/- The reference's Safe. -/
set_option linter.unusedVariables false
set_option maxRecDepth 10000
set_option linter.unusedSimpArgs false
namespace Delphi
theorem mem_cVars {v : List Nat} {l : List Tm} : v ∈ cVars l ↔ ∃ t ∈ l, t.kind = 1 ∧ t.name = v := by
  have : ∀ (l : List Tm) (out : List (List Nat)), v ∈ l.foldl addVar out ↔ v ∈ out ∨ ∃ t ∈ l, t.kind = 1 ∧ t.name = v := by
    intro l
    induction l with
    | nil => intro out; simp
    | cons t l ih =>
      intro out
      rw [List.foldl_cons, ih]
      have h : v ∈ addVar out t ↔ v ∈ out ∨ (t.kind = 1 ∧ t.name = v) := by
        unfold addVar
        split
        · rename_i hc
          rw [List.mem_append, List.mem_singleton]
          exact ⟨fun h => h.imp (fun h => h) fun h => ⟨hc.1, h.symm⟩, fun h => h.imp (fun h => h) fun h => h.2.symm⟩
        · rename_i hc
          refine ⟨.inl, fun h => h.elim (fun h => h) ?_⟩
          rintro ⟨h1, rfl⟩
          exact Classical.byContradiction fun hn => hc ⟨h1, hn⟩
      rw [h]
      simp only [List.mem_cons, exists_eq_or_imp, or_assoc]
  simpa [cVars] using this l []
theorem mem_bndL {v : List Nat} : ∀ (l : List Lt) (acc : List (List Nat)), v ∈ l.foldl bndL acc ↔ v ∈ acc ∨ ∃ x ∈ l, x.kind = 1 ∧ ∃ t ∈ x.args, t.kind = 1 ∧ t.name = v
  | [], acc => by simp
  | x :: l, acc => by
    rw [List.foldl_cons, mem_bndL l]
    have h : v ∈ bndL acc x ↔ v ∈ acc ∨ (x.kind = 1 ∧ ∃ t ∈ x.args, t.kind = 1 ∧ t.name = v) := by
      unfold bndL
      split
      · rename_i hc
        rw [List.mem_append, mem_cVars]
        exact ⟨fun h => h.imp (fun h => h) fun h => ⟨hc, h⟩, fun h => h.imp (fun h => h) fun h => h.2⟩
      · rename_i hc
        exact ⟨.inl, fun h => h.elim (fun h => h) fun h => absurd h.1 hc⟩
    rw [h]
    simp only [List.mem_cons, exists_eq_or_imp, or_assoc]
theorem mem_needL {v : List Nat} : ∀ (l : List Lt) (acc : List (List Nat)), v ∈ l.foldl needL acc ↔ v ∈ acc ∨ ∃ x ∈ l, x.kind ≠ 1 ∧ ∃ t ∈ x.args, t.kind = 1 ∧ t.name = v
  | [], acc => by simp
  | x :: l, acc => by
    rw [List.foldl_cons, mem_needL l]
    have h : v ∈ needL acc x ↔ v ∈ acc ∨ (x.kind ≠ 1 ∧ ∃ t ∈ x.args, t.kind = 1 ∧ t.name = v) := by
      unfold needL
      split
      · rename_i hc
        exact ⟨.inl, fun h => h.elim (fun h => h) fun h => absurd hc h.1⟩
      · rename_i hc
        rw [List.mem_append, mem_cVars]
        exact ⟨fun h => h.imp (fun h => h) fun h => ⟨hc, h⟩, fun h => h.imp (fun h => h) fun h => h.2⟩
    rw [h]
    simp only [List.mem_cons, exists_eq_or_imp, or_assoc]
theorem mem_rBound {v : List Nat} {r : Rl} : v ∈ rBound r ↔ ∃ x ∈ r.body, x.kind = 1 ∧ ∃ t ∈ x.args, t.kind = 1 ∧ t.name = v := by
  rw [rBound_eq, mem_bndL]; simp
theorem mem_rNeed {v : List Nat} {r : Rl} : v ∈ rNeed r ↔ (∃ t ∈ r.head.args, t.kind = 1 ∧ t.name = v) ∨ ∃ x ∈ r.body, x.kind ≠ 1 ∧ ∃ t ∈ x.args, t.kind = 1 ∧ t.name = v := by
  rw [rNeed_eq, mem_needL, mem_cVars]
end Delphi
namespace Go.Proofs.Ytjidefnbancmfaa
open Go.AE Delphi
variable {tab : Tab}
theorem drop_cons_of {α : Type} {l : List α} {i : Nat} {x : α} (h : l[i]? = some x) : l.drop i = x :: l.drop (i + 1) := by
  have hlt : i < l.length := (List.getElem?_eq_some_iff.1 h).1
  rw [List.drop_eq_getElem_cons hlt]; rw [List.getElem?_eq_getElem hlt] at h; rw [Option.some.inj h]
theorem take_snoc_of {α : Type} {l : List α} {i : Nat} {x : α} (h : l[i]? = some x) : l.take (i + 1) = l.take i ++ [x] := by rw [List.take_add_one, h]; rfl
def BnI (n2 : Nat) (v : List Nat) (r : Rl) (w0 : AW) (q : Nat) (f : Fr) (w : AW) : Prop :=
  ∃ i, f.get 1 = some (.str v) ∧ f.get 2 = some (.ptr n2 0) ∧ f.get 5 = some (.int .i64 (Int.ofNat i)) ∧ i ≤ r.body.length ∧ q = r.body.length - i ∧ (∀ x ∈ r.body.take i, x.kind = 1 → ∀ t ∈ x.args, ¬ (t.kind = 1 ∧ t.name = v)) ∧ w = w0
def BkI (n2 i : Nat) (v : List Nat) (r : Rl) (x : Lt) (w0 : AW) (q : Nat) (f : Fr) (w : AW) : Prop :=
  ∃ k, f.get 1 = some (.str v) ∧ f.get 2 = some (.ptr n2 0) ∧ f.get 5 = some (.int .i64 (Int.ofNat i)) ∧ f.get 6 = some (.int .i64 (Int.ofNat k)) ∧ k ≤ x.args.length ∧ q = x.args.length - k ∧ (∀ t ∈ x.args.take k, ¬ (t.kind = 1 ∧ t.name = v)) ∧ w = w0
/-- binds. -/
theorem binds_ok (C : Codes tab) {T : Nat → Prop} {aw : AW} {xs : List V} {r : Rl} {v : List Nat} {K : V → AW → Prop} (hr : RlC T aw r xs) (hbd : RBd r) (h : ∀ w, Frm (fun _ => False) aw w → K (.bool (decide (v ∈ rBound r))) w) : WF tab n_ref8_binds [.agg xs, .str v] aw K := by
  refine WF_of C.c_ref8_binds rfl ?_
  obtain ⟨hv, u, rfl, _, hu⟩ := hr
  have cb := fresh_cb aw [V.int .i64 (Int.ofNat r.head.kind), .str r.head.name, hv, u]
  have ff := fresh_frm (S := fun _ => False) aw [V.int .i64 (Int.ofNat r.head.kind), .str r.head.name, hv, u]
  have hu1 : RdL (LtC T) T (aw.fresh [V.int .i64 (Int.ofNat r.head.kind), .str r.head.name, hv, u]) u 3 r.body := hu.frm (fun _ _ h => h.frm ff fun _ _ h => h) ff fun _ _ h => h
  generalize hw1 : aw.fresh [V.int .i64 (Int.ofNat r.head.kind), .str r.head.name, hv, u] = w1 at cb ff hu1
  have l3 : w1.load aw.next 3 1 = some [u] := by rw [cb.load]; rfl
  have hlv := rdL_lenV hu
  refine WS_run 1000 (by simp only [go_sem, eRun_exit, Nat.reduceAdd, Nat.reduceLT, Nat.reduceEqDiff, reduceIte, reduceCtorEq, Int.reduceBEq, Int.reduceBNe, Int.reduceLT, Int.reduceLE, Int.reduceGT, Int.reduceGE, Int.reduceEq, Int.reduceAdd, Int.reduceSub, Int.reduceMul, Nat.reduceMul, Nat.reduceSub, Nat.reduceLeDiff, k_ref8_binds, hw1]; rfl) ?_
  refine WS_loopJ (BnI aw.next v r w1) (fun f w => w = w1 ∧ v ∉ rBound r) ?_ ?_ r.body.length ⟨0, (by simp only [go_sem, eRun_exit, Nat.reduceAdd, Nat.reduceLT, Nat.reduceEqDiff, reduceIte, reduceCtorEq, Int.reduceBEq, Int.reduceBNe, Int.reduceLT, Int.reduceLE, Int.reduceGT, Int.reduceGE, Int.reduceEq, Int.reduceAdd, Int.reduceSub, Int.reduceMul, Nat.reduceMul, Nat.reduceSub, Nat.reduceLeDiff] <;> rfl), (by simp only [go_sem, eRun_exit, Nat.reduceAdd, Nat.reduceLT, Nat.reduceEqDiff, reduceIte, reduceCtorEq, Int.reduceBEq, Int.reduceBNe, Int.reduceLT, Int.reduceLE, Int.reduceGT, Int.reduceGE, Int.reduceEq, Int.reduceAdd, Int.reduceSub, Int.reduceMul, Nat.reduceMul, Nat.reduceSub, Nat.reduceLeDiff] <;> rfl), (by simp only [go_sem, eRun_exit, Nat.reduceAdd, Nat.reduceLT, Nat.reduceEqDiff, reduceIte, reduceCtorEq, Int.reduceBEq, Int.reduceBNe, Int.reduceLT, Int.reduceLE, Int.reduceGT, Int.reduceGE, Int.reduceEq, Int.reduceAdd, Int.reduceSub, Int.reduceMul, Nat.reduceMul, Nat.reduceSub, Nat.reduceLeDiff] <;> rfl), by omega, rfl, by simp, rfl⟩
  · rintro q f w ⟨i, f1, f2, f5, hi, rfl, hno, rfl⟩ ih exit
    by_cases hlt : i < r.body.length
    case neg =>
      rw [List.take_of_length_le (by omega)] at hno
      refine WS_runB 1000 (by simp only [go_sem, Nat.reduceAdd, Nat.reduceLT, Nat.reduceEqDiff, reduceIte, reduceCtorEq, Int.reduceBEq, Int.reduceBNe, Int.reduceLT, Int.reduceLE, Int.reduceGT, Int.reduceGE, Int.reduceEq, Int.reduceAdd, Int.reduceSub, Int.reduceMul, Nat.reduceMul, Nat.reduceSub, Nat.reduceLeDiff, k_ref8_binds_p3, f2, f5, l3, hlv, hlt]; rfl) ?_
      refine exit _ _ _ ⟨rfl, fun hm => ?_⟩ rfl
      obtain ⟨x, hx, h1, t, ht, h2⟩ := mem_rBound.1 hm
      exact hno x hx h1 t ht h2
    obtain ⟨x, hx⟩ : ∃ t, r.body[i]? = some t := ⟨_, List.getElem?_eq_getElem hlt⟩
    have hargs := hbd.args x (List.mem_of_getElem? hx)
    obtain ⟨b, o, c, xu, rfl, _, _, _, a0, _, a2, hru⟩ := lits_at hu1 hx
    have hwr : IntKind.wrap .i64 (Int.ofNat i + 1) = Int.ofNat (i + 1) := wrap_succ (by have := hbd.body; omega)
    have hxl := hru.lenV
    refine WS_run 1000 (by simp only [go_sem, eRun_exit, Nat.reduceAdd, Nat.reduceLT, Nat.reduceEqDiff, reduceIte, reduceCtorEq, Int.reduceBEq, Int.reduceBNe, Int.reduceLT, Int.reduceLE, Int.reduceGT, Int.reduceGE, Int.reduceEq, Int.reduceAdd, Int.reduceSub, Int.reduceMul, Nat.reduceMul, Nat.reduceSub, Nat.reduceLeDiff, k_ref8_binds_p3, f2, f5, l3, hlv, hlt]; rfl) ?_
    refine WS_loopJ (BkI aw.next i v r x w) (fun f' w' => f'.get 1 = some (.str v) ∧ f'.get 2 = some (.ptr aw.next 0) ∧ f'.get 5 = some (.int .i64 (Int.ofNat i)) ∧ w' = w ∧ (x.kind = 1 → ∀ t ∈ x.args, ¬ (t.kind = 1 ∧ t.name = v))) ?_ ?_ x.args.length ⟨0, (by simp only [go_sem, eRun_exit, Nat.reduceAdd, Nat.reduceLT, Nat.reduceEqDiff, reduceIte, reduceCtorEq, Int.reduceBEq, Int.reduceBNe, Int.reduceLT, Int.reduceLE, Int.reduceGT, Int.reduceGE, Int.reduceEq, Int.reduceAdd, Int.reduceSub, Int.reduceMul, Nat.reduceMul, Nat.reduceSub, Nat.reduceLeDiff, f1] <;> rfl), (by simp only [go_sem, eRun_exit, Nat.reduceAdd, Nat.reduceLT, Nat.reduceEqDiff, reduceIte, reduceCtorEq, Int.reduceBEq, Int.reduceBNe, Int.reduceLT, Int.reduceLE, Int.reduceGT, Int.reduceGE, Int.reduceEq, Int.reduceAdd, Int.reduceSub, Int.reduceMul, Nat.reduceMul, Nat.reduceSub, Nat.reduceLeDiff, f2] <;> rfl), (by simp only [go_sem, eRun_exit, Nat.reduceAdd, Nat.reduceLT, Nat.reduceEqDiff, reduceIte, reduceCtorEq, Int.reduceBEq, Int.reduceBNe, Int.reduceLT, Int.reduceLE, Int.reduceGT, Int.reduceGE, Int.reduceEq, Int.reduceAdd, Int.reduceSub, Int.reduceMul, Nat.reduceMul, Nat.reduceSub, Nat.reduceLeDiff, f5] <;> rfl), (by simp only [go_sem, eRun_exit, Nat.reduceAdd, Nat.reduceLT, Nat.reduceEqDiff, reduceIte, reduceCtorEq, Int.reduceBEq, Int.reduceBNe, Int.reduceLT, Int.reduceLE, Int.reduceGT, Int.reduceGE, Int.reduceEq, Int.reduceAdd, Int.reduceSub, Int.reduceMul, Nat.reduceMul, Nat.reduceSub, Nat.reduceLeDiff] <;> rfl), by omega, rfl, by simp, rfl⟩
    · rintro q f w' ⟨k, f1, f2, f5, f6, hk, rfl, hnk, rfl⟩ ih2 exit2
      by_cases hk1 : x.kind = 1
      case neg =>
        refine WS_runB 1000 (by simp only [go_sem, Nat.reduceAdd, Nat.reduceLT, Nat.reduceEqDiff, reduceIte, reduceCtorEq, Int.reduceBEq, Int.reduceBNe, Int.reduceLT, Int.reduceLE, Int.reduceGT, Int.reduceGE, Int.reduceEq, Int.reduceAdd, Int.reduceSub, Int.reduceMul, Nat.reduceMul, Nat.reduceSub, Nat.reduceLeDiff, k_ref8_binds_p2, f2, f5, l3, hlt, a0, hk1]; rfl) ?_
        exact exit2 _ _ _ ⟨(by simp only [go_sem, eRun_exit, Nat.reduceAdd, Nat.reduceLT, Nat.reduceEqDiff, reduceIte, reduceCtorEq, Int.reduceBEq, Int.reduceBNe, Int.reduceLT, Int.reduceLE, Int.reduceGT, Int.reduceGE, Int.reduceEq, Int.reduceAdd, Int.reduceSub, Int.reduceMul, Nat.reduceMul, Nat.reduceSub, Nat.reduceLeDiff, f1] <;> rfl), (by simp only [go_sem, eRun_exit, Nat.reduceAdd, Nat.reduceLT, Nat.reduceEqDiff, reduceIte, reduceCtorEq, Int.reduceBEq, Int.reduceBNe, Int.reduceLT, Int.reduceLE, Int.reduceGT, Int.reduceGE, Int.reduceEq, Int.reduceAdd, Int.reduceSub, Int.reduceMul, Nat.reduceMul, Nat.reduceSub, Nat.reduceLeDiff, f2] <;> rfl), (by simp only [go_sem, eRun_exit, Nat.reduceAdd, Nat.reduceLT, Nat.reduceEqDiff, reduceIte, reduceCtorEq, Int.reduceBEq, Int.reduceBNe, Int.reduceLT, Int.reduceLE, Int.reduceGT, Int.reduceGE, Int.reduceEq, Int.reduceAdd, Int.reduceSub, Int.reduceMul, Nat.reduceMul, Nat.reduceSub, Nat.reduceLeDiff, f5] <;> rfl), rfl, fun h => absurd h hk1⟩ rfl
      rw [hk1] at a0
      by_cases hkl : k < x.args.length
      case neg =>
        rw [List.take_of_length_le (by omega)] at hnk
        refine WS_runB 1000 (by simp only [go_sem, Nat.reduceAdd, Nat.reduceLT, Nat.reduceEqDiff, reduceIte, reduceCtorEq, Int.reduceBEq, Int.reduceBNe, Int.reduceLT, Int.reduceLE, Int.reduceGT, Int.reduceGE, Int.reduceEq, Int.reduceAdd, Int.reduceSub, Int.reduceMul, Nat.reduceMul, Nat.reduceSub, Nat.reduceLeDiff, k_ref8_binds_p2, f2, f5, f6, l3, hlt, a0, a2, hxl, hkl]; rfl) ?_
        exact exit2 _ _ _ ⟨(by simp only [go_sem, eRun_exit, Nat.reduceAdd, Nat.reduceLT, Nat.reduceEqDiff, reduceIte, reduceCtorEq, Int.reduceBEq, Int.reduceBNe, Int.reduceLT, Int.reduceLE, Int.reduceGT, Int.reduceGE, Int.reduceEq, Int.reduceAdd, Int.reduceSub, Int.reduceMul, Nat.reduceMul, Nat.reduceSub, Nat.reduceLeDiff, f1] <;> rfl), (by simp only [go_sem, eRun_exit, Nat.reduceAdd, Nat.reduceLT, Nat.reduceEqDiff, reduceIte, reduceCtorEq, Int.reduceBEq, Int.reduceBNe, Int.reduceLT, Int.reduceLE, Int.reduceGT, Int.reduceGE, Int.reduceEq, Int.reduceAdd, Int.reduceSub, Int.reduceMul, Nat.reduceMul, Nat.reduceSub, Nat.reduceLeDiff, f2] <;> rfl), (by simp only [go_sem, eRun_exit, Nat.reduceAdd, Nat.reduceLT, Nat.reduceEqDiff, reduceIte, reduceCtorEq, Int.reduceBEq, Int.reduceBNe, Int.reduceLT, Int.reduceLE, Int.reduceGT, Int.reduceGE, Int.reduceEq, Int.reduceAdd, Int.reduceSub, Int.reduceMul, Nat.reduceMul, Nat.reduceSub, Nat.reduceLeDiff, f5] <;> rfl), rfl, fun _ => hnk⟩ rfl
      obtain ⟨t, ht⟩ : ∃ t, x.args[k]? = some t := ⟨_, List.getElem?_eq_getElem hkl⟩
      obtain ⟨b2, o2, c2, rfl, _, _, _, t0, t1⟩ := tms_at hru ht
      have hwk : IntKind.wrap .i64 (Int.ofNat k + 1) = Int.ofNat (k + 1) := wrap_succ (by omega)
      have next : ¬ (t.kind = 1 ∧ t.name = v) → ∀ y ∈ x.args.take (k + 1), ¬ (y.kind = 1 ∧ y.name = v) := by
        intro hn y hy
        rw [take_snoc_of ht, List.mem_append, List.mem_singleton] at hy
        rcases hy with hy | rfl
        · exact hnk y hy
        · exact hn
      by_cases ht1 : t.kind = 1
      case neg =>
        refine WS_run 1000 (by simp only [go_sem, eRun_exit, Nat.reduceAdd, Nat.reduceLT, Nat.reduceEqDiff, reduceIte, reduceCtorEq, Int.reduceBEq, Int.reduceBNe, Int.reduceLT, Int.reduceLE, Int.reduceGT, Int.reduceGE, Int.reduceEq, Int.reduceAdd, Int.reduceSub, Int.reduceMul, Nat.reduceMul, Nat.reduceSub, Nat.reduceLeDiff, k_ref8_binds_p2, k_ref8_binds_p1, f1, f2, f5, f6, l3, hlt, a0, a2, hxl, hkl, t0, ht1, hwk]; rfl) ?_
        exact ih2 _ _ _ (by omega) ⟨k + 1, (by simp only [go_sem, eRun_exit, Nat.reduceAdd, Nat.reduceLT, Nat.reduceEqDiff, reduceIte, reduceCtorEq, Int.reduceBEq, Int.reduceBNe, Int.reduceLT, Int.reduceLE, Int.reduceGT, Int.reduceGE, Int.reduceEq, Int.reduceAdd, Int.reduceSub, Int.reduceMul, Nat.reduceMul, Nat.reduceSub, Nat.reduceLeDiff, f1] <;> rfl), (by simp only [go_sem, eRun_exit, Nat.reduceAdd, Nat.reduceLT, Nat.reduceEqDiff, reduceIte, reduceCtorEq, Int.reduceBEq, Int.reduceBNe, Int.reduceLT, Int.reduceLE, Int.reduceGT, Int.reduceGE, Int.reduceEq, Int.reduceAdd, Int.reduceSub, Int.reduceMul, Nat.reduceMul, Nat.reduceSub, Nat.reduceLeDiff, f2] <;> rfl), (by simp only [go_sem, eRun_exit, Nat.reduceAdd, Nat.reduceLT, Nat.reduceEqDiff, reduceIte, reduceCtorEq, Int.reduceBEq, Int.reduceBNe, Int.reduceLT, Int.reduceLE, Int.reduceGT, Int.reduceGE, Int.reduceEq, Int.reduceAdd, Int.reduceSub, Int.reduceMul, Nat.reduceMul, Nat.reduceSub, Nat.reduceLeDiff, f5] <;> rfl), (by simp only [go_sem, eRun_exit, Nat.reduceAdd, Nat.reduceLT, Nat.reduceEqDiff, reduceIte, reduceCtorEq, Int.reduceBEq, Int.reduceBNe, Int.reduceLT, Int.reduceLE, Int.reduceGT, Int.reduceGE, Int.reduceEq, Int.reduceAdd, Int.reduceSub, Int.reduceMul, Nat.reduceMul, Nat.reduceSub, Nat.reduceLeDiff] <;> rfl), by omega, rfl, next fun h => ht1 h.1, rfl⟩
      rw [ht1] at t0
      by_cases htv : t.name = v
      · have e : eqL t.name v = true := eqL_iff.2 htv
        have hm : v ∈ rBound r := mem_rBound.2 ⟨x, List.mem_of_getElem? hx, hk1, t, List.mem_of_getElem? ht, ht1, htv⟩
        refine WS_run 1000 (by simp only [go_sem, eRun_exit, Nat.reduceAdd, Nat.reduceLT, Nat.reduceEqDiff, reduceIte, reduceCtorEq, Int.reduceBEq, Int.reduceBNe, Int.reduceLT, Int.reduceLE, Int.reduceGT, Int.reduceGE, Int.reduceEq, Int.reduceAdd, Int.reduceSub, Int.reduceMul, Nat.reduceMul, Nat.reduceSub, Nat.reduceLeDiff, k_ref8_binds_p2, k_ref8_binds_p1, k_ref8_binds_p0, f1, f2, f5, f6, l3, hlt, a0, a2, hxl, hkl, t0, t1, strS, e]; rfl) ?_
        refine WS_ret ⟨_, by simp only [go_sem, eRun_exit, Nat.reduceAdd, Nat.reduceLT, Nat.reduceEqDiff, reduceIte, reduceCtorEq, Int.reduceBEq, Int.reduceBNe, Int.reduceLT, Int.reduceLE, Int.reduceGT, Int.reduceGE, Int.reduceEq, Int.reduceAdd, Int.reduceSub, Int.reduceMul, Nat.reduceMul, Nat.reduceSub, Nat.reduceLeDiff, k_ref8_binds]; rfl, ?_⟩
        have := h w' ff
        rw [decide_eq_true hm] at this; exact this
      · have e : eqL t.name v = false := by
          cases hc : eqL t.name v with
          | false => rfl
          | true => exact absurd (eqL_iff.1 hc) htv
        refine WS_run 1000 (by simp only [go_sem, eRun_exit, Nat.reduceAdd, Nat.reduceLT, Nat.reduceEqDiff, reduceIte, reduceCtorEq, Int.reduceBEq, Int.reduceBNe, Int.reduceLT, Int.reduceLE, Int.reduceGT, Int.reduceGE, Int.reduceEq, Int.reduceAdd, Int.reduceSub, Int.reduceMul, Nat.reduceMul, Nat.reduceSub, Nat.reduceLeDiff, k_ref8_binds_p2, k_ref8_binds_p1, f1, f2, f5, f6, l3, hlt, a0, a2, hxl, hkl, t0, t1, strS, e, hwk]; rfl) ?_
        exact ih2 _ _ _ (by omega) ⟨k + 1, (by simp only [go_sem, eRun_exit, Nat.reduceAdd, Nat.reduceLT, Nat.reduceEqDiff, reduceIte, reduceCtorEq, Int.reduceBEq, Int.reduceBNe, Int.reduceLT, Int.reduceLE, Int.reduceGT, Int.reduceGE, Int.reduceEq, Int.reduceAdd, Int.reduceSub, Int.reduceMul, Nat.reduceMul, Nat.reduceSub, Nat.reduceLeDiff, f1] <;> rfl), (by simp only [go_sem, eRun_exit, Nat.reduceAdd, Nat.reduceLT, Nat.reduceEqDiff, reduceIte, reduceCtorEq, Int.reduceBEq, Int.reduceBNe, Int.reduceLT, Int.reduceLE, Int.reduceGT, Int.reduceGE, Int.reduceEq, Int.reduceAdd, Int.reduceSub, Int.reduceMul, Nat.reduceMul, Nat.reduceSub, Nat.reduceLeDiff, f2] <;> rfl), (by simp only [go_sem, eRun_exit, Nat.reduceAdd, Nat.reduceLT, Nat.reduceEqDiff, reduceIte, reduceCtorEq, Int.reduceBEq, Int.reduceBNe, Int.reduceLT, Int.reduceLE, Int.reduceGT, Int.reduceGE, Int.reduceEq, Int.reduceAdd, Int.reduceSub, Int.reduceMul, Nat.reduceMul, Nat.reduceSub, Nat.reduceLeDiff, f5] <;> rfl), (by simp only [go_sem, eRun_exit, Nat.reduceAdd, Nat.reduceLT, Nat.reduceEqDiff, reduceIte, reduceCtorEq, Int.reduceBEq, Int.reduceBNe, Int.reduceLT, Int.reduceLE, Int.reduceGT, Int.reduceGE, Int.reduceEq, Int.reduceAdd, Int.reduceSub, Int.reduceMul, Nat.reduceMul, Nat.reduceSub, Nat.reduceLeDiff] <;> rfl), by omega, rfl, next fun h => htv h.2, rfl⟩
    · rintro f w' ⟨f1, f2, f5, rfl, hnx⟩
      refine WS_run 1000 (by simp only [go_sem, eRun_exit, Nat.reduceAdd, Nat.reduceLT, Nat.reduceEqDiff, reduceIte, reduceCtorEq, Int.reduceBEq, Int.reduceBNe, Int.reduceLT, Int.reduceLE, Int.reduceGT, Int.reduceGE, Int.reduceEq, Int.reduceAdd, Int.reduceSub, Int.reduceMul, Nat.reduceMul, Nat.reduceSub, Nat.reduceLeDiff, f5, hwr]; rfl) ?_
      refine ih _ _ _ (by omega) ⟨i + 1, (by simp only [go_sem, eRun_exit, Nat.reduceAdd, Nat.reduceLT, Nat.reduceEqDiff, reduceIte, reduceCtorEq, Int.reduceBEq, Int.reduceBNe, Int.reduceLT, Int.reduceLE, Int.reduceGT, Int.reduceGE, Int.reduceEq, Int.reduceAdd, Int.reduceSub, Int.reduceMul, Nat.reduceMul, Nat.reduceSub, Nat.reduceLeDiff, f1] <;> rfl), (by simp only [go_sem, eRun_exit, Nat.reduceAdd, Nat.reduceLT, Nat.reduceEqDiff, reduceIte, reduceCtorEq, Int.reduceBEq, Int.reduceBNe, Int.reduceLT, Int.reduceLE, Int.reduceGT, Int.reduceGE, Int.reduceEq, Int.reduceAdd, Int.reduceSub, Int.reduceMul, Nat.reduceMul, Nat.reduceSub, Nat.reduceLeDiff, f2] <;> rfl), (by simp only [go_sem, eRun_exit, Nat.reduceAdd, Nat.reduceLT, Nat.reduceEqDiff, reduceIte, reduceCtorEq, Int.reduceBEq, Int.reduceBNe, Int.reduceLT, Int.reduceLE, Int.reduceGT, Int.reduceGE, Int.reduceEq, Int.reduceAdd, Int.reduceSub, Int.reduceMul, Nat.reduceMul, Nat.reduceSub, Nat.reduceLeDiff] <;> rfl), by omega, rfl, fun y hy => ?_, rfl⟩
      rw [take_snoc_of hx, List.mem_append, List.mem_singleton] at hy
      rcases hy with hy | rfl
      · exact hno y hy
      · exact hnx
  · rintro f w ⟨rfl, hno⟩
    refine WS_run 1000 (by simp only [go_sem, eRun_exit, Nat.reduceAdd, Nat.reduceLT, Nat.reduceEqDiff, reduceIte, reduceCtorEq, Int.reduceBEq, Int.reduceBNe, Int.reduceLT, Int.reduceLE, Int.reduceGT, Int.reduceGE, Int.reduceEq, Int.reduceAdd, Int.reduceSub, Int.reduceMul, Nat.reduceMul, Nat.reduceSub, Nat.reduceLeDiff]; rfl) ?_
    refine WS_ret ⟨_, by simp only [go_sem, eRun_exit, Nat.reduceAdd, Nat.reduceLT, Nat.reduceEqDiff, reduceIte, reduceCtorEq, Int.reduceBEq, Int.reduceBNe, Int.reduceLT, Int.reduceLE, Int.reduceGT, Int.reduceGE, Int.reduceEq, Int.reduceAdd, Int.reduceSub, Int.reduceMul, Nat.reduceMul, Nat.reduceSub, Nat.reduceLeDiff, k_ref8_binds]; rfl, ?_⟩
    have := h w ff
    rw [decide_eq_false hno] at this; exact this
end Go.Proofs.Ytjidefnbancmfaa

/- The reference's Safe, whole. -/
set_option linter.unusedVariables false
set_option maxRecDepth 10000
set_option linter.unusedSimpArgs false
namespace Go.Proofs.Ytjidefnbancmfaa
open Go.AE Delphi
variable {tab : Tab}
/-- appended to a slice that has no room. -/
theorem known_append {w : AW} {b n k esz bytes : Nat} {cs news : List V} (h : CB w b cs) (hl : cs.length = n * esz) (hn : 0 < n) (hk : news.length = k * esz) (hb : (n + k) * bytes ≤ 70368744177664) (hb' : n + k ≤ 70368744177664) :
    ∃ v' w', w.appendV esz bytes (.slice b 0 n (.known n)) k news = some (v', w') ∧ Rd (fun x => x = b ∨ (w.next ≤ x ∧ x < w'.next)) w' v' esz (n + k) (cs ++ news) ∧ Frm (fun _ => False) w w' := by
  have rd0 : Rd (fun x => x = b) w (.slice b 0 n (.known n)) esz n cs := .blk rfl h.lt h.get (.inl rfl) (by omega) (by rw [List.drop_zero, List.take_of_length_le (by omega)]) (Nat.le_refl _)
  cases k with
  | zero =>
    have : news = [] := List.length_eq_zero_iff.1 (by simpa using hk)
    subst this
    refine ⟨.slice b 0 n (.known n), w, if_pos (Nat.le_refl _), ?_, Frm.refl _⟩
    rw [List.append_nil, Nat.add_zero]
    exact rd0.mono fun x hx => .inl hx
  | succ k =>
    have hel := rd0.elems
    refine ⟨.slice w.next 0 (n + (k + 1)) (.upTo esz), w.fresh (cs ++ news), ?_, ?_, fresh_frm _ _⟩
    · show (if (n + (k + 1)) * bytes ≤ 70368744177664 ∧ n + (k + 1) ≤ 70368744177664 ∧ n ≤ n then _ else none) = _
      rw [if_pos ⟨hb, hb', Nat.le_refl _⟩, if_neg (by omega), hel]
    · have c := fresh_cb w (cs ++ news)
      have hlen : (cs ++ news).length = (n + (k + 1)) * esz := by rw [List.length_append, hl, hk, ← Nat.add_mul]
      exact .blk (.inr ⟨Nat.le_refl _, c.lt⟩) c.lt c.get (.inl rfl) (by omega) (by rw [List.drop_zero, List.take_of_length_le (by omega)]) (.inl rfl)
/-- head and body. -/
def rAll (r : Rl) : List Lt := r.head :: r.body
def BadAt (r : Rl) (i : Nat) (x : Lt) (t : Tm) : Prop := t.kind = 1 ∧ (i = 0 ∨ x.kind ≠ 1) ∧ t.name ∉ rBound r
def SaI (n1 : Nat) (lv : V) (r : Rl) (a0 : AW) (q : Nat) (f : Fr) (w : AW) : Prop :=
  ∃ i, f.get 1 = some (.ptr n1 0) ∧ f.get 3 = some lv ∧ f.get 4 = some (.int .i64 (Int.ofNat i)) ∧ i ≤ (rAll r).length ∧ q = (rAll r).length - i ∧ (∀ j x, j < i → (rAll r)[j]? = some x → ∀ t ∈ x.args, ¬ BadAt r j x t) ∧ Frm (fun _ => False) a0 w
def SkI (n1 : Nat) (lv : V) (r : Rl) (i : Nat) (x : Lt) (a0 : AW) (q : Nat) (f : Fr) (w : AW) : Prop :=
  ∃ k, f.get 1 = some (.ptr n1 0) ∧ f.get 3 = some lv ∧ f.get 4 = some (.int .i64 (Int.ofNat i)) ∧ f.get 5 = some (.int .i64 (Int.ofNat k)) ∧ k ≤ x.args.length ∧ q = x.args.length - k ∧ (∀ t ∈ x.args.take k, ¬ BadAt r i x t) ∧ Frm (fun _ => False) a0 w
theorem safe_bad {r : Rl} {i : Nat} {x : Lt} {t : Tm} (hx : (rAll r)[i]? = some x) (ht : t ∈ x.args) (hb : BadAt r i x t) : cSafe r = false := by
  unfold cSafe
  rw [List.all_eq_false]
  refine ⟨t.name, mem_rNeed.2 ?_, by simpa using hb.2.2⟩
  cases i with
  | zero => simp [rAll] at hx; subst hx; exact .inl ⟨t, ht, hb.1, rfl⟩
  | succ i =>
    have hx' : r.body[i]? = some x := by simpa [rAll] using hx
    exact .inr ⟨x, List.mem_of_getElem? hx', hb.2.1.resolve_left (by omega), t, ht, hb.1, rfl⟩
theorem safe_good {r : Rl} (h : ∀ j x, j < (rAll r).length → (rAll r)[j]? = some x → ∀ t ∈ x.args, ¬ BadAt r j x t) : cSafe r = true := by
  unfold cSafe
  rw [List.all_eq_true]
  intro v hv
  rw [decide_eq_true_iff]
  refine Classical.byContradiction fun hn => ?_
  rcases mem_rNeed.1 hv with ⟨t, ht, h1, rfl⟩ | ⟨x, hx, hk, t, ht, h1, rfl⟩
  · exact h 0 r.head (by simp [rAll]) rfl t ht ⟨h1, .inl rfl, hn⟩
  · obtain ⟨i, hi⟩ := List.mem_iff_getElem?.1 hx
    have hlt := (List.getElem?_eq_some_iff.1 hi).1
    exact h (i + 1) x (by simp [rAll]; omega) (by simpa [rAll] using hi) t ht ⟨h1, .inr hk, hn⟩
/-- Safe. -/
theorem rsafe_ok (C : Codes tab) {T : Nat → Prop} {aw : AW} {xs : List V} {r : Rl} {K : V → AW → Prop} (hr : RlC T aw r xs) (hbd : RBd r) (h : ∀ w, Frm (fun _ => False) aw w → K (.bool (cSafe r)) w) : WF tab n_ref8_Safe [.agg xs] aw K := by
  refine WF_of C.c_ref8_Safe rfl ?_
  have hr0 := hr
  obtain ⟨hv, u, rfl, hh, hu⟩ := hr
  have cb := fresh_cb aw [V.int .i64 (Int.ofNat r.head.kind), .str r.head.name, hv, u]
  have ff := fresh_frm (S := fun _ => False) aw [V.int .i64 (Int.ofNat r.head.kind), .str r.head.name, hv, u]
  generalize hw1 : aw.fresh [V.int .i64 (Int.ofNat r.head.kind), .str r.head.name, hv, u] = w1 at cb ff
  have l0 : w1.load aw.next 0 3 = some [V.int .i64 (Int.ofNat r.head.kind), .str r.head.name, hv] := by rw [cb.load]; rfl
  have hone := hr0.one
  have hov : over [V.int .i64 0, V.str [], V.nilslice] 0 [V.int .i64 (Int.ofNat r.head.kind), .str r.head.name, hv] = some [V.int .i64 (Int.ofNat r.head.kind), .str r.head.name, hv] := rfl
  have cb1 := fresh_cb w1 [V.int .i64 (Int.ofNat r.head.kind), .str r.head.name, hv]
  have ff1 := fresh_frm (S := fun _ => False) w1 [V.int .i64 (Int.ofNat r.head.kind), .str r.head.name, hv]
  have cb01 := cb.frm ff1 fun h => h
  generalize hw2 : w1.fresh [V.int .i64 (Int.ofNat r.head.kind), .str r.head.name, hv] = w2 at cb1 ff1 cb01
  have l3 : w2.load aw.next 3 1 = some [u] := by rw [cb01.load]; rfl
  have f02 := ff.tr ff1
  obtain ⟨xss, hrd, hall⟩ := hu.frm (fun _ _ h => h.frm f02 fun _ _ h => h) f02 fun _ _ h => h
  have hel := hrd.elems
  obtain ⟨lv, w3, u1, u2, u3⟩ := known_append (bytes := 48) cb1 (n := 1) (esz := 3) rfl (by omega) hrd.len (by have := hbd.body; omega) (by have := hbd.body; omega)
  have f03 := f02.tr u3
  have cb3 := cb01.frm u3 fun h => h
  have hL : RdL (LtC T) (fun x => x = w1.next ∨ (w2.next ≤ x ∧ x < w3.next)) w3 lv 3 (rAll r) := by
    refine ⟨[V.int .i64 (Int.ofNat r.head.kind), .str r.head.name, hv] :: xss, ?_, .cons ⟨hv, rfl, hh.frm f03 fun _ _ h => h⟩ (hall.imp fun _ _ h => h.frm u3 fun _ _ h => h)⟩
    have e : 1 + r.body.length = (rAll r).length := by simp [rAll]; omega
    rw [e] at u2
    exact u2
  have hlv := rdL_lenV hL
  have hRl : RlC T w3 r [V.int .i64 (Int.ofNat r.head.kind), .str r.head.name, hv, u] := hr0.frm f03 fun _ _ h => h
  have hal : (rAll r).length ≤ 1001 := by have := hbd.body; simp [rAll]; omega
  have lit : ∀ {w : AW} {i : Nat} {x : Lt}, Frm (fun _ => False) w3 w → (rAll r)[i]? = some x → ∃ b o c xu, lv = .slice b o (rAll r).length c ∧ w.load b (o + i * 3) 1 = some [.int .i64 (Int.ofNat x.kind)] ∧ w.load b (o + i * 3 + 2) 1 = some [xu] ∧ Rd T w xu 3 x.args.length (tmsC x.args) := by
    intro w i x hf hx
    have hL' : RdL (LtC T) (fun x => x = w1.next ∨ (w2.next ≤ x ∧ x < w3.next)) w lv 3 (rAll r) := hL.frm (fun _ _ h => h.frm hf fun _ _ h => h) hf fun _ _ h => h
    have hlt : i < (rAll r).length := (List.getElem?_eq_some_iff.1 hx).1
    rcases hL'.inv (fun a xs hx => (LtC.one hx).1) with ⟨_, q2⟩ | ⟨b, o, c, rfl, _, _, _, hat⟩
    · rw [q2] at hlt; simp at hlt
    · obtain ⟨xs, ⟨xu, rfl, hxu⟩, hp⟩ := hat i x hx
      exact ⟨b, o, c, xu, rfl, hp 0 1 (by omega), hp 2 1 (by omega), hxu⟩
  have argl : ∀ {i : Nat} {x : Lt}, (rAll r)[i]? = some x → x.args.length ≤ 1000 := by
    intro i x hx
    cases i with
    | zero => simp [rAll] at hx; subst hx; exact hbd.head
    | succ i => exact hbd.args x (List.mem_of_getElem? (by simpa [rAll] using hx))
  refine WS_run 1000 (by simp only [go_sem, eRun_exit, Nat.reduceAdd, Nat.reduceLT, Nat.reduceEqDiff, reduceIte, reduceCtorEq, Int.reduceBEq, Int.reduceBNe, Int.reduceLT, Int.reduceLE, Int.reduceGT, Int.reduceGE, Int.reduceEq, Int.reduceAdd, Int.reduceSub, Int.reduceMul, Nat.reduceMul, Nat.reduceSub, Nat.reduceLeDiff, k_ref8_Safe, k_ref8_Safe_p4, hw1, hw2, l0, l3, evParts, fillV, hov, hel, u1, List.length_cons, List.length_nil]; rfl) ?_
  refine WS_loopJ (SaI aw.next lv r w3) (fun f w => Frm (fun _ => False) w3 w ∧ cSafe r = true) ?_ ?_ (rAll r).length ⟨0, (by simp only [go_sem, eRun_exit, Nat.reduceAdd, Nat.reduceLT, Nat.reduceEqDiff, reduceIte, reduceCtorEq, Int.reduceBEq, Int.reduceBNe, Int.reduceLT, Int.reduceLE, Int.reduceGT, Int.reduceGE, Int.reduceEq, Int.reduceAdd, Int.reduceSub, Int.reduceMul, Nat.reduceMul, Nat.reduceSub, Nat.reduceLeDiff] <;> rfl), (by simp only [go_sem, eRun_exit, Nat.reduceAdd, Nat.reduceLT, Nat.reduceEqDiff, reduceIte, reduceCtorEq, Int.reduceBEq, Int.reduceBNe, Int.reduceLT, Int.reduceLE, Int.reduceGT, Int.reduceGE, Int.reduceEq, Int.reduceAdd, Int.reduceSub, Int.reduceMul, Nat.reduceMul, Nat.reduceSub, Nat.reduceLeDiff] <;> rfl), (by simp only [go_sem, eRun_exit, Nat.reduceAdd, Nat.reduceLT, Nat.reduceEqDiff, reduceIte, reduceCtorEq, Int.reduceBEq, Int.reduceBNe, Int.reduceLT, Int.reduceLE, Int.reduceGT, Int.reduceGE, Int.reduceEq, Int.reduceAdd, Int.reduceSub, Int.reduceMul, Nat.reduceMul, Nat.reduceSub, Nat.reduceLeDiff] <;> rfl), by omega, rfl, fun j x hj => by omega, Frm.refl _⟩
  · rintro q f w ⟨i, f1, f3, f4, hi, rfl, hno, hf⟩ ih exit
    by_cases hlt : i < (rAll r).length
    case neg =>
      have : i = (rAll r).length := by omega
      subst this
      refine WS_runB 1000 (by simp only [go_sem, Nat.reduceAdd, Nat.reduceLT, Nat.reduceEqDiff, reduceIte, reduceCtorEq, Int.reduceBEq, Int.reduceBNe, Int.reduceLT, Int.reduceLE, Int.reduceGT, Int.reduceGE, Int.reduceEq, Int.reduceAdd, Int.reduceSub, Int.reduceMul, Nat.reduceMul, Nat.reduceSub, Nat.reduceLeDiff, k_ref8_Safe_p3, f3, f4, hlv, hlt]; rfl) ?_
      exact exit _ _ _ ⟨hf, safe_good hno⟩ rfl
    obtain ⟨x, hx⟩ : ∃ t, (rAll r)[i]? = some t := ⟨_, List.getElem?_eq_getElem hlt⟩
    have hargs := argl hx
    have hwr : IntKind.wrap .i64 (Int.ofNat i + 1) = Int.ofNat (i + 1) := wrap_succ (by omega)
    refine WS_run 1000 (by simp only [go_sem, eRun_exit, Nat.reduceAdd, Nat.reduceLT, Nat.reduceEqDiff, reduceIte, reduceCtorEq, Int.reduceBEq, Int.reduceBNe, Int.reduceLT, Int.reduceLE, Int.reduceGT, Int.reduceGE, Int.reduceEq, Int.reduceAdd, Int.reduceSub, Int.reduceMul, Nat.reduceMul, Nat.reduceSub, Nat.reduceLeDiff, k_ref8_Safe_p3, f3, f4, hlv, hlt]; rfl) ?_
    refine WS_loopJ (SkI aw.next lv r i x w3) (fun f' w' => f'.get 1 = some (.ptr aw.next 0) ∧ f'.get 3 = some lv ∧ f'.get 4 = some (.int .i64 (Int.ofNat i)) ∧ Frm (fun _ => False) w3 w' ∧ ∀ t ∈ x.args, ¬ BadAt r i x t) ?_ ?_ x.args.length ⟨0, (by simp only [go_sem, eRun_exit, Nat.reduceAdd, Nat.reduceLT, Nat.reduceEqDiff, reduceIte, reduceCtorEq, Int.reduceBEq, Int.reduceBNe, Int.reduceLT, Int.reduceLE, Int.reduceGT, Int.reduceGE, Int.reduceEq, Int.reduceAdd, Int.reduceSub, Int.reduceMul, Nat.reduceMul, Nat.reduceSub, Nat.reduceLeDiff, f1] <;> rfl), (by simp only [go_sem, eRun_exit, Nat.reduceAdd, Nat.reduceLT, Nat.reduceEqDiff, reduceIte, reduceCtorEq, Int.reduceBEq, Int.reduceBNe, Int.reduceLT, Int.reduceLE, Int.reduceGT, Int.reduceGE, Int.reduceEq, Int.reduceAdd, Int.reduceSub, Int.reduceMul, Nat.reduceMul, Nat.reduceSub, Nat.reduceLeDiff, f3] <;> rfl), (by simp only [go_sem, eRun_exit, Nat.reduceAdd, Nat.reduceLT, Nat.reduceEqDiff, reduceIte, reduceCtorEq, Int.reduceBEq, Int.reduceBNe, Int.reduceLT, Int.reduceLE, Int.reduceGT, Int.reduceGE, Int.reduceEq, Int.reduceAdd, Int.reduceSub, Int.reduceMul, Nat.reduceMul, Nat.reduceSub, Nat.reduceLeDiff, f4] <;> rfl), (by simp only [go_sem, eRun_exit, Nat.reduceAdd, Nat.reduceLT, Nat.reduceEqDiff, reduceIte, reduceCtorEq, Int.reduceBEq, Int.reduceBNe, Int.reduceLT, Int.reduceLE, Int.reduceGT, Int.reduceGE, Int.reduceEq, Int.reduceAdd, Int.reduceSub, Int.reduceMul, Nat.reduceMul, Nat.reduceSub, Nat.reduceLeDiff] <;> rfl), by omega, rfl, by simp, hf⟩
    · rintro q f w' ⟨k, f1, f3, f4, f5, hk, rfl, hnk, hf'⟩ ih2 exit2
      obtain ⟨b, o, c, xu, rfl, a0, a2, hru⟩ := lit hf' hx
      have hxl := hru.lenV
      by_cases hkl : k < x.args.length
      case neg =>
        rw [List.take_of_length_le (by omega)] at hnk
        refine WS_runB 1000 (by simp only [go_sem, Nat.reduceAdd, Nat.reduceLT, Nat.reduceEqDiff, reduceIte, reduceCtorEq, Int.reduceBEq, Int.reduceBNe, Int.reduceLT, Int.reduceLE, Int.reduceGT, Int.reduceGE, Int.reduceEq, Int.reduceAdd, Int.reduceSub, Int.reduceMul, Nat.reduceMul, Nat.reduceSub, Nat.reduceLeDiff, k_ref8_Safe_p2, f3, f4, f5, hlt, a2, hxl, hkl]; rfl) ?_
        exact exit2 _ _ _ ⟨(by simp only [go_sem, eRun_exit, Nat.reduceAdd, Nat.reduceLT, Nat.reduceEqDiff, reduceIte, reduceCtorEq, Int.reduceBEq, Int.reduceBNe, Int.reduceLT, Int.reduceLE, Int.reduceGT, Int.reduceGE, Int.reduceEq, Int.reduceAdd, Int.reduceSub, Int.reduceMul, Nat.reduceMul, Nat.reduceSub, Nat.reduceLeDiff, f1] <;> rfl), (by simp only [go_sem, eRun_exit, Nat.reduceAdd, Nat.reduceLT, Nat.reduceEqDiff, reduceIte, reduceCtorEq, Int.reduceBEq, Int.reduceBNe, Int.reduceLT, Int.reduceLE, Int.reduceGT, Int.reduceGE, Int.reduceEq, Int.reduceAdd, Int.reduceSub, Int.reduceMul, Nat.reduceMul, Nat.reduceSub, Nat.reduceLeDiff, f3] <;> rfl), (by simp only [go_sem, eRun_exit, Nat.reduceAdd, Nat.reduceLT, Nat.reduceEqDiff, reduceIte, reduceCtorEq, Int.reduceBEq, Int.reduceBNe, Int.reduceLT, Int.reduceLE, Int.reduceGT, Int.reduceGE, Int.reduceEq, Int.reduceAdd, Int.reduceSub, Int.reduceMul, Nat.reduceMul, Nat.reduceSub, Nat.reduceLeDiff, f4] <;> rfl), hf', hnk⟩ rfl
      obtain ⟨t, ht⟩ : ∃ t, x.args[k]? = some t := ⟨_, List.getElem?_eq_getElem hkl⟩
      obtain ⟨b2, o2, c2, rfl, _, _, _, t0, t1⟩ := tms_at hru ht
      have hwk : IntKind.wrap .i64 (Int.ofNat k + 1) = Int.ofNat (k + 1) := wrap_succ (by omega)
      have next : ¬ BadAt r i x t → ∀ y ∈ x.args.take (k + 1), ¬ BadAt r i x y := by
        intro hn y hy
        rw [take_snoc_of ht, List.mem_append, List.mem_singleton] at hy
        rcases hy with hy | rfl
        · exact hnk y hy
        · exact hn
      by_cases ht1 : t.kind = 1
      case neg =>
        refine WS_run 1000 (by simp only [go_sem, eRun_exit, Nat.reduceAdd, Nat.reduceLT, Nat.reduceEqDiff, reduceIte, reduceCtorEq, Int.reduceBEq, Int.reduceBNe, Int.reduceLT, Int.reduceLE, Int.reduceGT, Int.reduceGE, Int.reduceEq, Int.reduceAdd, Int.reduceSub, Int.reduceMul, Nat.reduceMul, Nat.reduceSub, Nat.reduceLeDiff, k_ref8_Safe_p2, k_ref8_Safe_p1, f1, f3, f4, f5, hlt, a2, hxl, hkl, t0, ht1, hwk]; rfl) ?_
        exact ih2 _ _ _ (by omega) ⟨k + 1, (by simp only [go_sem, eRun_exit, Nat.reduceAdd, Nat.reduceLT, Nat.reduceEqDiff, reduceIte, reduceCtorEq, Int.reduceBEq, Int.reduceBNe, Int.reduceLT, Int.reduceLE, Int.reduceGT, Int.reduceGE, Int.reduceEq, Int.reduceAdd, Int.reduceSub, Int.reduceMul, Nat.reduceMul, Nat.reduceSub, Nat.reduceLeDiff, f1] <;> rfl), (by simp only [go_sem, eRun_exit, Nat.reduceAdd, Nat.reduceLT, Nat.reduceEqDiff, reduceIte, reduceCtorEq, Int.reduceBEq, Int.reduceBNe, Int.reduceLT, Int.reduceLE, Int.reduceGT, Int.reduceGE, Int.reduceEq, Int.reduceAdd, Int.reduceSub, Int.reduceMul, Nat.reduceMul, Nat.reduceSub, Nat.reduceLeDiff, f3] <;> rfl), (by simp only [go_sem, eRun_exit, Nat.reduceAdd, Nat.reduceLT, Nat.reduceEqDiff, reduceIte, reduceCtorEq, Int.reduceBEq, Int.reduceBNe, Int.reduceLT, Int.reduceLE, Int.reduceGT, Int.reduceGE, Int.reduceEq, Int.reduceAdd, Int.reduceSub, Int.reduceMul, Nat.reduceMul, Nat.reduceSub, Nat.reduceLeDiff, f4] <;> rfl), (by simp only [go_sem, eRun_exit, Nat.reduceAdd, Nat.reduceLT, Nat.reduceEqDiff, reduceIte, reduceCtorEq, Int.reduceBEq, Int.reduceBNe, Int.reduceLT, Int.reduceLE, Int.reduceGT, Int.reduceGE, Int.reduceEq, Int.reduceAdd, Int.reduceSub, Int.reduceMul, Nat.reduceMul, Nat.reduceSub, Nat.reduceLeDiff] <;> rfl), by omega, rfl, next fun h => ht1 h.1, hf'⟩
      rw [ht1] at t0
      have la := (cb3.frm hf' fun h => h).all (n := 4) rfl
      -- the call
      have called : ∀ {w5 : AW}, Frm (fun _ => False) w' w5 → Frm (fun _ => False) w3 w5 := fun h => hf'.tr h
      by_cases hi0 : i = 0
      · subst hi0
        refine WS_run 1000 (by simp only [go_sem, eRun_exit, Nat.reduceAdd, Nat.reduceLT, Nat.reduceEqDiff, reduceIte, reduceCtorEq, Int.reduceBEq, Int.reduceBNe, Int.reduceLT, Int.reduceLE, Int.reduceGT, Int.reduceGE, Int.reduceEq, Int.reduceAdd, Int.reduceSub, Int.reduceMul, Nat.reduceMul, Nat.reduceSub, Nat.reduceLeDiff, k_ref8_Safe_p2, k_ref8_Safe_p1, f1, f3, f4, f5, hlt, a2, hxl, hkl, t0, t1, la]; rfl) ?_
        refine WS_call (by simp only [go_sem, eRun_exit, Nat.reduceAdd, Nat.reduceLT, Nat.reduceEqDiff, reduceIte, reduceCtorEq, Int.reduceBEq, Int.reduceBNe, Int.reduceLT, Int.reduceLE, Int.reduceGT, Int.reduceGE, Int.reduceEq, Int.reduceAdd, Int.reduceSub, Int.reduceMul, Nat.reduceMul, Nat.reduceSub, Nat.reduceLeDiff]) (by simp only [go_sem, eRun_exit, Nat.reduceAdd, Nat.reduceLT, Nat.reduceEqDiff, reduceIte, reduceCtorEq, Int.reduceBEq, Int.reduceBNe, Int.reduceLT, Int.reduceLE, Int.reduceGT, Int.reduceGE, Int.reduceEq, Int.reduceAdd, Int.reduceSub, Int.reduceMul, Nat.reduceMul, Nat.reduceSub, Nat.reduceLeDiff]; rfl) ?_
        refine binds_ok C (hRl.frm hf' fun _ _ h => h) hbd fun w5 v1 => ?_
        by_cases hm : t.name ∈ rBound r
        · rw [decide_eq_true hm]
          refine WS_run 1000 (by simp only [go_sem, eRun_exit, Nat.reduceAdd, Nat.reduceLT, Nat.reduceEqDiff, reduceIte, reduceCtorEq, Int.reduceBEq, Int.reduceBNe, Int.reduceLT, Int.reduceLE, Int.reduceGT, Int.reduceGE, Int.reduceEq, Int.reduceAdd, Int.reduceSub, Int.reduceMul, Nat.reduceMul, Nat.reduceSub, Nat.reduceLeDiff, f5, hwk]; rfl) ?_
          exact ih2 _ _ _ (by omega) ⟨k + 1, (by simp only [go_sem, eRun_exit, Nat.reduceAdd, Nat.reduceLT, Nat.reduceEqDiff, reduceIte, reduceCtorEq, Int.reduceBEq, Int.reduceBNe, Int.reduceLT, Int.reduceLE, Int.reduceGT, Int.reduceGE, Int.reduceEq, Int.reduceAdd, Int.reduceSub, Int.reduceMul, Nat.reduceMul, Nat.reduceSub, Nat.reduceLeDiff, f1] <;> rfl), (by simp only [go_sem, eRun_exit, Nat.reduceAdd, Nat.reduceLT, Nat.reduceEqDiff, reduceIte, reduceCtorEq, Int.reduceBEq, Int.reduceBNe, Int.reduceLT, Int.reduceLE, Int.reduceGT, Int.reduceGE, Int.reduceEq, Int.reduceAdd, Int.reduceSub, Int.reduceMul, Nat.reduceMul, Nat.reduceSub, Nat.reduceLeDiff, f3] <;> rfl), (by simp only [go_sem, eRun_exit, Nat.reduceAdd, Nat.reduceLT, Nat.reduceEqDiff, reduceIte, reduceCtorEq, Int.reduceBEq, Int.reduceBNe, Int.reduceLT, Int.reduceLE, Int.reduceGT, Int.reduceGE, Int.reduceEq, Int.reduceAdd, Int.reduceSub, Int.reduceMul, Nat.reduceMul, Nat.reduceSub, Nat.reduceLeDiff, f4] <;> rfl), (by simp only [go_sem, eRun_exit, Nat.reduceAdd, Nat.reduceLT, Nat.reduceEqDiff, reduceIte, reduceCtorEq, Int.reduceBEq, Int.reduceBNe, Int.reduceLT, Int.reduceLE, Int.reduceGT, Int.reduceGE, Int.reduceEq, Int.reduceAdd, Int.reduceSub, Int.reduceMul, Nat.reduceMul, Nat.reduceSub, Nat.reduceLeDiff] <;> rfl), by omega, rfl, next fun h => h.2.2 hm, called v1⟩
        · rw [decide_eq_false hm]
          refine WS_run 1000 (by simp only [go_sem, eRun_exit, Nat.reduceAdd, Nat.reduceLT, Nat.reduceEqDiff, reduceIte, reduceCtorEq, Int.reduceBEq, Int.reduceBNe, Int.reduceLT, Int.reduceLE, Int.reduceGT, Int.reduceGE, Int.reduceEq, Int.reduceAdd, Int.reduceSub, Int.reduceMul, Nat.reduceMul, Nat.reduceSub, Nat.reduceLeDiff, k_ref8_Safe_p0]; rfl) ?_
          refine WS_ret ⟨_, by simp only [go_sem, eRun_exit, Nat.reduceAdd, Nat.reduceLT, Nat.reduceEqDiff, reduceIte, reduceCtorEq, Int.reduceBEq, Int.reduceBNe, Int.reduceLT, Int.reduceLE, Int.reduceGT, Int.reduceGE, Int.reduceEq, Int.reduceAdd, Int.reduceSub, Int.reduceMul, Nat.reduceMul, Nat.reduceSub, Nat.reduceLeDiff, k_ref8_Safe]; rfl, ?_⟩
          have := h w5 (f03.tr (called v1))
          rw [safe_bad hx (List.mem_of_getElem? ht) ⟨ht1, .inl rfl, hm⟩] at this; exact this
      · by_cases hk1 : x.kind = 1
        · rw [hk1] at a0
          refine WS_run 1000 (by simp only [go_sem, eRun_exit, Nat.reduceAdd, Nat.reduceLT, Nat.reduceEqDiff, reduceIte, reduceCtorEq, Int.reduceBEq, Int.reduceBNe, Int.reduceLT, Int.reduceLE, Int.reduceGT, Int.reduceGE, Int.reduceEq, Int.reduceAdd, Int.reduceSub, Int.reduceMul, Nat.reduceMul, Nat.reduceSub, Nat.reduceLeDiff, k_ref8_Safe_p2, k_ref8_Safe_p1, f1, f3, f4, f5, hlt, a0, a2, hxl, hkl, t0, hi0, hwk]; rfl) ?_
          exact ih2 _ _ _ (by omega) ⟨k + 1, (by simp only [go_sem, eRun_exit, Nat.reduceAdd, Nat.reduceLT, Nat.reduceEqDiff, reduceIte, reduceCtorEq, Int.reduceBEq, Int.reduceBNe, Int.reduceLT, Int.reduceLE, Int.reduceGT, Int.reduceGE, Int.reduceEq, Int.reduceAdd, Int.reduceSub, Int.reduceMul, Nat.reduceMul, Nat.reduceSub, Nat.reduceLeDiff, f1] <;> rfl), (by simp only [go_sem, eRun_exit, Nat.reduceAdd, Nat.reduceLT, Nat.reduceEqDiff, reduceIte, reduceCtorEq, Int.reduceBEq, Int.reduceBNe, Int.reduceLT, Int.reduceLE, Int.reduceGT, Int.reduceGE, Int.reduceEq, Int.reduceAdd, Int.reduceSub, Int.reduceMul, Nat.reduceMul, Nat.reduceSub, Nat.reduceLeDiff, f3] <;> rfl), (by simp only [go_sem, eRun_exit, Nat.reduceAdd, Nat.reduceLT, Nat.reduceEqDiff, reduceIte, reduceCtorEq, Int.reduceBEq, Int.reduceBNe, Int.reduceLT, Int.reduceLE, Int.reduceGT, Int.reduceGE, Int.reduceEq, Int.reduceAdd, Int.reduceSub, Int.reduceMul, Nat.reduceMul, Nat.reduceSub, Nat.reduceLeDiff, f4] <;> rfl), (by simp only [go_sem, eRun_exit, Nat.reduceAdd, Nat.reduceLT, Nat.reduceEqDiff, reduceIte, reduceCtorEq, Int.reduceBEq, Int.reduceBNe, Int.reduceLT, Int.reduceLE, Int.reduceGT, Int.reduceGE, Int.reduceEq, Int.reduceAdd, Int.reduceSub, Int.reduceMul, Nat.reduceMul, Nat.reduceSub, Nat.reduceLeDiff] <;> rfl), by omega, rfl, next fun h => h.2.1.elim hi0 fun h => h hk1, hf'⟩
        · refine WS_run 1000 (by simp only [go_sem, eRun_exit, Nat.reduceAdd, Nat.reduceLT, Nat.reduceEqDiff, reduceIte, reduceCtorEq, Int.reduceBEq, Int.reduceBNe, Int.reduceLT, Int.reduceLE, Int.reduceGT, Int.reduceGE, Int.reduceEq, Int.reduceAdd, Int.reduceSub, Int.reduceMul, Nat.reduceMul, Nat.reduceSub, Nat.reduceLeDiff, k_ref8_Safe_p2, k_ref8_Safe_p1, f1, f3, f4, f5, hlt, a0, a2, hxl, hkl, t0, t1, hi0, hk1, la]; rfl) ?_
          refine WS_call (by simp only [go_sem, eRun_exit, Nat.reduceAdd, Nat.reduceLT, Nat.reduceEqDiff, reduceIte, reduceCtorEq, Int.reduceBEq, Int.reduceBNe, Int.reduceLT, Int.reduceLE, Int.reduceGT, Int.reduceGE, Int.reduceEq, Int.reduceAdd, Int.reduceSub, Int.reduceMul, Nat.reduceMul, Nat.reduceSub, Nat.reduceLeDiff]) (by simp only [go_sem, eRun_exit, Nat.reduceAdd, Nat.reduceLT, Nat.reduceEqDiff, reduceIte, reduceCtorEq, Int.reduceBEq, Int.reduceBNe, Int.reduceLT, Int.reduceLE, Int.reduceGT, Int.reduceGE, Int.reduceEq, Int.reduceAdd, Int.reduceSub, Int.reduceMul, Nat.reduceMul, Nat.reduceSub, Nat.reduceLeDiff]; rfl) ?_
          refine binds_ok C (hRl.frm hf' fun _ _ h => h) hbd fun w5 v1 => ?_
          by_cases hm : t.name ∈ rBound r
          · rw [decide_eq_true hm]
            refine WS_run 1000 (by simp only [go_sem, eRun_exit, Nat.reduceAdd, Nat.reduceLT, Nat.reduceEqDiff, reduceIte, reduceCtorEq, Int.reduceBEq, Int.reduceBNe, Int.reduceLT, Int.reduceLE, Int.reduceGT, Int.reduceGE, Int.reduceEq, Int.reduceAdd, Int.reduceSub, Int.reduceMul, Nat.reduceMul, Nat.reduceSub, Nat.reduceLeDiff, f5, hwk]; rfl) ?_
            exact ih2 _ _ _ (by omega) ⟨k + 1, (by simp only [go_sem, eRun_exit, Nat.reduceAdd, Nat.reduceLT, Nat.reduceEqDiff, reduceIte, reduceCtorEq, Int.reduceBEq, Int.reduceBNe, Int.reduceLT, Int.reduceLE, Int.reduceGT, Int.reduceGE, Int.reduceEq, Int.reduceAdd, Int.reduceSub, Int.reduceMul, Nat.reduceMul, Nat.reduceSub, Nat.reduceLeDiff, f1] <;> rfl), (by simp only [go_sem, eRun_exit, Nat.reduceAdd, Nat.reduceLT, Nat.reduceEqDiff, reduceIte, reduceCtorEq, Int.reduceBEq, Int.reduceBNe, Int.reduceLT, Int.reduceLE, Int.reduceGT, Int.reduceGE, Int.reduceEq, Int.reduceAdd, Int.reduceSub, Int.reduceMul, Nat.reduceMul, Nat.reduceSub, Nat.reduceLeDiff, f3] <;> rfl), (by simp only [go_sem, eRun_exit, Nat.reduceAdd, Nat.reduceLT, Nat.reduceEqDiff, reduceIte, reduceCtorEq, Int.reduceBEq, Int.reduceBNe, Int.reduceLT, Int.reduceLE, Int.reduceGT, Int.reduceGE, Int.reduceEq, Int.reduceAdd, Int.reduceSub, Int.reduceMul, Nat.reduceMul, Nat.reduceSub, Nat.reduceLeDiff, f4] <;> rfl), (by simp only [go_sem, eRun_exit, Nat.reduceAdd, Nat.reduceLT, Nat.reduceEqDiff, reduceIte, reduceCtorEq, Int.reduceBEq, Int.reduceBNe, Int.reduceLT, Int.reduceLE, Int.reduceGT, Int.reduceGE, Int.reduceEq, Int.reduceAdd, Int.reduceSub, Int.reduceMul, Nat.reduceMul, Nat.reduceSub, Nat.reduceLeDiff] <;> rfl), by omega, rfl, next fun h => h.2.2 hm, called v1⟩
          · rw [decide_eq_false hm]
            refine WS_run 1000 (by simp only [go_sem, eRun_exit, Nat.reduceAdd, Nat.reduceLT, Nat.reduceEqDiff, reduceIte, reduceCtorEq, Int.reduceBEq, Int.reduceBNe, Int.reduceLT, Int.reduceLE, Int.reduceGT, Int.reduceGE, Int.reduceEq, Int.reduceAdd, Int.reduceSub, Int.reduceMul, Nat.reduceMul, Nat.reduceSub, Nat.reduceLeDiff, k_ref8_Safe_p0]; rfl) ?_
            refine WS_ret ⟨_, by simp only [go_sem, eRun_exit, Nat.reduceAdd, Nat.reduceLT, Nat.reduceEqDiff, reduceIte, reduceCtorEq, Int.reduceBEq, Int.reduceBNe, Int.reduceLT, Int.reduceLE, Int.reduceGT, Int.reduceGE, Int.reduceEq, Int.reduceAdd, Int.reduceSub, Int.reduceMul, Nat.reduceMul, Nat.reduceSub, Nat.reduceLeDiff, k_ref8_Safe]; rfl, ?_⟩
            have := h w5 (f03.tr (called v1))
            rw [safe_bad hx (List.mem_of_getElem? ht) ⟨ht1, .inr hk1, hm⟩] at this; exact this
    · rintro f w' ⟨f1, f3, f4, hf', hnx⟩
      refine WS_run 1000 (by simp only [go_sem, eRun_exit, Nat.reduceAdd, Nat.reduceLT, Nat.reduceEqDiff, reduceIte, reduceCtorEq, Int.reduceBEq, Int.reduceBNe, Int.reduceLT, Int.reduceLE, Int.reduceGT, Int.reduceGE, Int.reduceEq, Int.reduceAdd, Int.reduceSub, Int.reduceMul, Nat.reduceMul, Nat.reduceSub, Nat.reduceLeDiff, f4, hwr]; rfl) ?_
      refine ih _ _ _ (by omega) ⟨i + 1, (by simp only [go_sem, eRun_exit, Nat.reduceAdd, Nat.reduceLT, Nat.reduceEqDiff, reduceIte, reduceCtorEq, Int.reduceBEq, Int.reduceBNe, Int.reduceLT, Int.reduceLE, Int.reduceGT, Int.reduceGE, Int.reduceEq, Int.reduceAdd, Int.reduceSub, Int.reduceMul, Nat.reduceMul, Nat.reduceSub, Nat.reduceLeDiff, f1] <;> rfl), (by simp only [go_sem, eRun_exit, Nat.reduceAdd, Nat.reduceLT, Nat.reduceEqDiff, reduceIte, reduceCtorEq, Int.reduceBEq, Int.reduceBNe, Int.reduceLT, Int.reduceLE, Int.reduceGT, Int.reduceGE, Int.reduceEq, Int.reduceAdd, Int.reduceSub, Int.reduceMul, Nat.reduceMul, Nat.reduceSub, Nat.reduceLeDiff, f3] <;> rfl), (by simp only [go_sem, eRun_exit, Nat.reduceAdd, Nat.reduceLT, Nat.reduceEqDiff, reduceIte, reduceCtorEq, Int.reduceBEq, Int.reduceBNe, Int.reduceLT, Int.reduceLE, Int.reduceGT, Int.reduceGE, Int.reduceEq, Int.reduceAdd, Int.reduceSub, Int.reduceMul, Nat.reduceMul, Nat.reduceSub, Nat.reduceLeDiff] <;> rfl), by omega, rfl, fun j y hj hy => ?_, hf'⟩
      by_cases hji : j = i
      · subst hji; rw [hx] at hy; cases hy; exact hnx
      · exact hno j y (by omega) hy
  · rintro f w ⟨hf, hs⟩
    refine WS_run 1000 (by simp only [go_sem, eRun_exit, Nat.reduceAdd, Nat.reduceLT, Nat.reduceEqDiff, reduceIte, reduceCtorEq, Int.reduceBEq, Int.reduceBNe, Int.reduceLT, Int.reduceLE, Int.reduceGT, Int.reduceGE, Int.reduceEq, Int.reduceAdd, Int.reduceSub, Int.reduceMul, Nat.reduceMul, Nat.reduceSub, Nat.reduceLeDiff]; rfl) ?_
    refine WS_ret ⟨_, by simp only [go_sem, eRun_exit, Nat.reduceAdd, Nat.reduceLT, Nat.reduceEqDiff, reduceIte, reduceCtorEq, Int.reduceBEq, Int.reduceBNe, Int.reduceLT, Int.reduceLE, Int.reduceGT, Int.reduceGE, Int.reduceEq, Int.reduceAdd, Int.reduceSub, Int.reduceMul, Nat.reduceMul, Nat.reduceSub, Nat.reduceLeDiff, k_ref8_Safe]; rfl, ?_⟩
    have := h w (f03.tr hf)
    rw [hs] at this; exact this
end Go.Proofs.Ytjidefnbancmfaa

/- check.Arities. -/
set_option linter.unusedVariables false
set_option maxRecDepth 10000
set_option linter.unusedSimpArgs false
namespace Delphi
open Go.AE
structure Fa where
  name : List Nat
  args : List (Int × List Nat × Int × Unit)
abbrev Ps := List (List Nat × Int)
def litP (l : Lt) : Ps := if l.kind = 1 ∨ l.kind = 2 then [(l.name, (l.args.length : Int))] else []
def ruleP (r : Rl) : Ps := (r.head.name, (r.head.args.length : Int)) :: r.body.flatMap litP
def factP (f : Fa) : Ps := [(f.name, (f.args.length : Int))]
def pSee (s : Ps × Bool) (p : List Nat × Int) : Ps × Bool := (aput s.1 p.1 p.2, s.2 && (match aget s.1 p.1 with | none => true | some k => decide (k = p.2)))
def sees (s : Ps × Bool) (l : Ps) : Ps × Bool := l.foldl pSee s
theorem sees_app (s : Ps × Bool) (a b : Ps) : sees s (a ++ b) = sees (sees s a) b := List.foldl_append ..
structure Bds (rules : List Rl) (facts : List Fa) : Prop where
  n : rules.length ≤ 1000
  rl : ∀ r ∈ rules, RBd r
  m : facts.length ≤ 1000
  fa : ∀ f ∈ facts, f.args.length ≤ 9223372036854775807
end Delphi
namespace Go.Proofs.Ytjidefnbancmfaa
open Go.AE Delphi
variable {tab : Tab}
def FaC (T : Nat → Prop) (w : AW) (f : Fa) (xs : List V) : Prop := ∃ v, xs = [.str f.name, v] ∧ ∃ cs, Rd T w v 3 f.args.length cs
theorem FaC.frm {T S : Nat → Prop} {w w' : AW} {l : Fa} {xs : List V} (h : FaC T w l xs) (hf : Frm S w w') (hd : ∀ x, T x → ¬ S x) : FaC T w' l xs := by
  obtain ⟨v, h1, cs, h2⟩ := h; exact ⟨v, h1, cs, h2.frm hf hd⟩
theorem FaC.one {T : Nat → Prop} {w : AW} {l : Fa} {xs : List V} (h : FaC T w l xs) : xs.length = 2 ∧ allOne xs = true := by
  obtain ⟨v, rfl, cs, h2⟩ := h
  refine ⟨rfl, ?_⟩
  rcases h2.inv with ⟨rfl, _⟩ | ⟨_, _, _, rfl, _⟩ <;> rfl
structure AW9 (aw w : AW) (c6 c7 bm : Nat) (s : Ps × Bool) : Prop where
  a6 : CB w c6 [.map bm]
  a7 : CB w c7 [.bool s.2]
  mp : SM w bm s.1
  frm : Frm (fun _ => False) aw w
  ge : aw.next ≤ c6 ∧ c6 < c7 ∧ aw.next ≤ bm ∧ bm < c6
/-- see. -/
theorem see_ok (C : Codes tab) {aw w : AW} {c6 c7 bm : Nat} {s : Ps × Bool} {nm : List Nat} {n : Nat} {K : V → AW → Prop} (hA : AW9 aw w c6 c7 bm s) (h : ∀ w', AW9 aw w' c6 c7 bm (pSee s (nm, (n : Int))) → Frm (fun b => b = c7 ∨ b = bm) w w' → w'.next = w.next → K (.tuple []) w') :
    WF tab n_check_Arities_1 [.str nm, .int .i64 (Int.ofNat n), .ptr c6 0, .ptr c7 0] w K := by
  refine WF_of C.c_check_Arities_1 rfl ?_
  obtain ⟨g1, g2, g3, g4⟩ := hA.ge
  have l6 := hA.a6.load 0 1
  have l6 : w.load c6 0 1 = some [.map bm] := l6
  have l7 : w.load c7 0 1 = some [.bool s.2] := hA.a7.load 0 1
  have look := hA.mp.look strKey (.int .i64 0) nm
  -- the flag
  have fin : ∀ (b : Bool), b = (pSee s (nm, (n : Int))).2 → ∃ w5, (w.put c7 [.bool b]).putV (.scalar .str) (.map bm) (.str nm) (.int .i64 (Int.ofNat n)) = some w5 ∧ (w.put c7 [.bool b]).load c6 0 1 = some [.map bm] ∧ AW9 aw w5 c6 c7 bm (pSee s (nm, (n : Int))) ∧ Frm (fun b => b = c7 ∨ b = bm) w w5 ∧ w5.next = w.next := by
    intro b hb
    have pf : Frm (fun x => x = c7) w (w.put c7 [.bool b]) := put_frm
    have m2 := hA.mp.frm pf (by show ¬ bm = c7; omega)
    obtain ⟨w5, u1, u2, u3, u4⟩ := m2.put strKey nm (Int.ofNat n)
    have a6 := hA.a6.frm pf (by show ¬ c6 = c7; omega)
    have a7 : CB (w.put c7 [.bool b]) c7 [.bool b] := put_cb hA.a7.lt
    have f2 : Frm (fun b => b = c7 ∨ b = bm) w w5 := pf.trans u3 (fun _ _ h => .inl h) fun _ _ h => .inr h
    refine ⟨w5, u1, by rw [a6.load]; rfl, ⟨a6.frm u3 (by show ¬ c6 = bm; omega), by rw [← hb]; exact a7.frm u3 (by show ¬ c7 = bm; omega), u2, ?_, hA.ge⟩, f2, u4⟩
    refine hA.frm.trans f2 (fun _ _ h => h) ?_
    rintro x hx (rfl | rfl) <;> omega
  have st : ∀ b : Bool, w.store c7 0 [.bool b] = some (w.put c7 [.bool b]) := fun b => hA.a7.set (i := 0) (by simp) rfl
  obtain ⟨M, fine⟩ := s
  simp only at look l7 fin
  cases hg : aget M nm with
  | none =>
    rw [hg] at look
    simp only [mres] at look
    have e : (pSee (M, fine) (nm, (n : Int))).2 = fine := by simp only [pSee, hg, Bool.and_true]
    cases fine with
    | true =>
      obtain ⟨w5, v1, v2, v3, v4, v5⟩ := fin true e.symm
      have st := st true
      refine WS_run 1000 (by simp only [go_sem, eRun_exit, Nat.reduceAdd, Nat.reduceLT, Nat.reduceEqDiff, reduceIte, reduceCtorEq, Int.reduceBEq, Int.reduceBNe, Int.reduceLT, Int.reduceLE, Int.reduceGT, Int.reduceGE, Int.reduceEq, Int.reduceAdd, Int.reduceSub, Int.reduceMul, Nat.reduceMul, Nat.reduceSub, Nat.reduceLeDiff, k_check_Arities_1, k_check_Arities_1_p0, l6, l7, look, st, v1, v2, List.length_cons, List.length_nil]; rfl) ?_
      refine WS_nil ⟨_, by simp only [go_sem, eRun_exit, Nat.reduceAdd, Nat.reduceLT, Nat.reduceEqDiff, reduceIte, reduceCtorEq, Int.reduceBEq, Int.reduceBNe, Int.reduceLT, Int.reduceLE, Int.reduceGT, Int.reduceGE, Int.reduceEq, Int.reduceAdd, Int.reduceSub, Int.reduceMul, Nat.reduceMul, Nat.reduceSub, Nat.reduceLeDiff, k_check_Arities_1]; rfl, ?_⟩
      exact h w5 v3 v4 v5
    | false =>
      obtain ⟨w5, v1, v2, v3, v4, v5⟩ := fin false e.symm
      have st := st false
      refine WS_run 1000 (by simp only [go_sem, eRun_exit, Nat.reduceAdd, Nat.reduceLT, Nat.reduceEqDiff, reduceIte, reduceCtorEq, Int.reduceBEq, Int.reduceBNe, Int.reduceLT, Int.reduceLE, Int.reduceGT, Int.reduceGE, Int.reduceEq, Int.reduceAdd, Int.reduceSub, Int.reduceMul, Nat.reduceMul, Nat.reduceSub, Nat.reduceLeDiff, k_check_Arities_1, k_check_Arities_1_p0, l6, l7, look, st, v1, v2, List.length_cons, List.length_nil]; rfl) ?_
      refine WS_nil ⟨_, by simp only [go_sem, eRun_exit, Nat.reduceAdd, Nat.reduceLT, Nat.reduceEqDiff, reduceIte, reduceCtorEq, Int.reduceBEq, Int.reduceBNe, Int.reduceLT, Int.reduceLE, Int.reduceGT, Int.reduceGE, Int.reduceEq, Int.reduceAdd, Int.reduceSub, Int.reduceMul, Nat.reduceMul, Nat.reduceSub, Nat.reduceLeDiff, k_check_Arities_1]; rfl, ?_⟩
      exact h w5 v3 v4 v5
  | some k =>
    rw [hg] at look
    simp only [mres] at look
    have e : (pSee (M, fine) (nm, (n : Int))).2 = (fine && decide (k = (n : Int))) := by simp only [pSee, hg]
    cases fine with
    | true =>
      obtain ⟨w5, v1, v2, v3, v4, v5⟩ := fin (decide (k = (n : Int))) (by rw [e, Bool.true_and])
      have st := st (decide (k = (n : Int)))
      have eb : (k == Int.ofNat n) = decide (k = (n : Int)) := by
        by_cases hk : k = (n : Int)
        · rw [decide_eq_true hk, hk]; simp
        · rw [decide_eq_false hk]; simpa using hk
      refine WS_run 1000 (by simp only [go_sem, eRun_exit, Nat.reduceAdd, Nat.reduceLT, Nat.reduceEqDiff, reduceIte, reduceCtorEq, Int.reduceBEq, Int.reduceBNe, Int.reduceLT, Int.reduceLE, Int.reduceGT, Int.reduceGE, Int.reduceEq, Int.reduceAdd, Int.reduceSub, Int.reduceMul, Nat.reduceMul, Nat.reduceSub, Nat.reduceLeDiff, k_check_Arities_1, k_check_Arities_1_p0, l6, l7, look, eb, st, v1, v2, List.length_cons, List.length_nil]; rfl) ?_
      refine WS_nil ⟨_, by simp only [go_sem, eRun_exit, Nat.reduceAdd, Nat.reduceLT, Nat.reduceEqDiff, reduceIte, reduceCtorEq, Int.reduceBEq, Int.reduceBNe, Int.reduceLT, Int.reduceLE, Int.reduceGT, Int.reduceGE, Int.reduceEq, Int.reduceAdd, Int.reduceSub, Int.reduceMul, Nat.reduceMul, Nat.reduceSub, Nat.reduceLeDiff, k_check_Arities_1]; rfl, ?_⟩
      exact h w5 v3 v4 v5
    | false =>
      obtain ⟨w5, v1, v2, v3, v4, v5⟩ := fin false (by rw [e, Bool.false_and])
      have st := st false
      refine WS_run 1000 (by simp only [go_sem, eRun_exit, Nat.reduceAdd, Nat.reduceLT, Nat.reduceEqDiff, reduceIte, reduceCtorEq, Int.reduceBEq, Int.reduceBNe, Int.reduceLT, Int.reduceLE, Int.reduceGT, Int.reduceGE, Int.reduceEq, Int.reduceAdd, Int.reduceSub, Int.reduceMul, Nat.reduceMul, Nat.reduceSub, Nat.reduceLeDiff, k_check_Arities_1, k_check_Arities_1_p0, l6, l7, look, st, v1, v2, List.length_cons, List.length_nil]; rfl) ?_
      refine WS_nil ⟨_, by simp only [go_sem, eRun_exit, Nat.reduceAdd, Nat.reduceLT, Nat.reduceEqDiff, reduceIte, reduceCtorEq, Int.reduceBEq, Int.reduceBNe, Int.reduceLT, Int.reduceLE, Int.reduceGT, Int.reduceGE, Int.reduceEq, Int.reduceAdd, Int.reduceSub, Int.reduceMul, Nat.reduceMul, Nat.reduceSub, Nat.reduceLeDiff, k_check_Arities_1]; rfl, ?_⟩
      exact h w5 v3 v4 v5
end Go.Proofs.Ytjidefnbancmfaa

/- check.Arities, whole. -/
set_option linter.unusedVariables false
set_option maxRecDepth 10000
set_option linter.unusedSimpArgs false
namespace Delphi
def st0 : Ps × Bool := ([], true)
def allP (rules : List Rl) (facts : List Fa) : Ps := rules.flatMap ruleP ++ facts.flatMap factP
end Delphi
namespace Go.Proofs.Ytjidefnbancmfaa
open Go.AE Delphi
variable {tab : Tab}
theorem Al.cut {T : Nat → Prop} {w : AW} {b : Nat} {sh : Share} (h : Al T w b sh) : Al (fun x => T x ∧ x < w.next) w b sh := by
  rcases h with rfl | rfl | rfl | ⟨f, F, rfl, h1, h2, h3⟩
  · exact .inl rfl
  · exact .inr (.inl rfl)
  · exact .inr (.inr (.inl rfl))
  · exact .inr (.inr (.inr ⟨f, F, rfl, ⟨h1, h2⟩, h2, h3⟩))
theorem Rd.cut {T : Nat → Prop} {w : AW} {v : V} {esz n : Nat} {cs : List V} (h : Rd T w v esz n cs) : Rd (fun x => T x ∧ x < w.next) w v esz n cs := by
  cases h with
  | nil => exact .nil
  | blk hT hb hx ha hl hcs hc => exact .blk ⟨hT, hb⟩ hb hx (Al.cut ha) hl hcs hc
theorem lits_cut {T : Nat → Prop} {w : AW} {v : V} {l : List Lt} (h : RdL (LtC T) T w v 3 l) : RdL (LtC (fun x => T x ∧ x < w.next)) (fun x => T x ∧ x < w.next) w v 3 l := by
  obtain ⟨xss, h1, h2⟩ := h
  refine ⟨xss, Rd.cut h1, h2.imp fun a xs hx => ?_⟩
  obtain ⟨u, e, hu⟩ := hx
  exact ⟨u, e, Rd.cut hu⟩
theorem rls_cut {T : Nat → Prop} {w : AW} {v : V} {l : List Rl} (h : RdL (RlC T) T w v 4 l) : RdL (RlC (fun x => T x ∧ x < w.next)) (fun x => T x ∧ x < w.next) w v 4 l := by
  obtain ⟨xss, h1, h2⟩ := h
  refine ⟨xss, Rd.cut h1, h2.imp fun a xs hx => ?_⟩
  obtain ⟨v, u, e, hv, hu⟩ := hx
  exact ⟨v, u, e, Rd.cut hv, lits_cut hu⟩
/-- a rule as it was, read where one is now. -/
theorem rls_at2 {T : Nat → Prop} {a w : AW} {v : V} {l : List Rl} (h : RdL (RlC T) T a v 4 l) (hf : Frm (fun _ => False) a w) {i : Nat} {r : Rl} (hi : l[i]? = some r) : ∃ b o c xs, v = .slice b o l.length c ∧ RlC T a r xs ∧ w.load b (o + i * 4) 4 = some xs ∧ ∀ j k, j + k ≤ 4 → w.load b (o + i * 4 + j) k = some ((xs.drop j).take k) := by
  obtain ⟨xss, h1, h2⟩ := h
  have hlt : i < l.length := (List.getElem?_eq_some_iff.1 hi).1
  have h3 : RdL (fun _ => RlC T a) T w v 4 l := ⟨xss, h1.frm hf fun _ _ h => h, h2⟩
  rcases h3.inv (fun a xs hx => (RlC.one hx).1) with ⟨_, q2⟩ | ⟨b, o, c, rfl, hT, hb, _, hat⟩
  · rw [q2] at hlt; simp at hlt
  · obtain ⟨xs, hx, hp⟩ := hat i r hi
    have hl := hx.one.1
    have := hp 0 4 (by omega)
    rw [List.drop_zero, List.take_of_length_le (by omega)] at this
    exact ⟨b, o, c, xs, rfl, hx, this, hp⟩
structure CF (f : Fr) (c6 c7 : Nat) (fv : V) : Prop where
  f1 : f.get 1 = some fv
  f6 : f.get 6 = some (.ptr c6 0)
  f7 : f.get 7 = some (.ptr c7 0)
  f8 : f.get 8 = some (.func (.func n_check_Arities_1) [] [.ptr c6 0, .ptr c7 0])
theorem aw9_ext {aw w w2 : AW} {c6 c7 bm : Nat} {s : Ps × Bool} (h : AW9 aw w c6 c7 bm s) (hf : Frm (fun _ => False) w w2) : AW9 aw w2 c6 c7 bm s := ⟨h.a6.frm hf fun h => h, h.a7.frm hf fun h => h, h.mp.frm hf fun h => h, h.frm.tr hf, h.ge⟩
/-- a body's predicates. -/
def ABI (aw : AW) (c6 c7 bm : Nat) (fv rv uv : V) (nr i : Nat) (body : List Lt) (s : Ps × Bool) (q : Nat) (f : Fr) (w : AW) : Prop :=
  ∃ j, CF f c6 c7 fv ∧ f.get 17 = some rv ∧ f.get 18 = some (.int .i64 (Int.ofNat nr)) ∧ f.get 19 = some (.int .i64 (Int.ofNat i)) ∧ f.get 33 = some uv ∧ f.get 34 = some (.int .i64 (Int.ofNat body.length)) ∧ f.get 35 = some (.int .i64 (Int.ofNat j)) ∧ j ≤ body.length ∧ q = body.length - j ∧ AW9 aw w c6 c7 bm (sees s ((body.take j).flatMap litP))
def ABJ (aw : AW) (c6 c7 bm : Nat) (fv rv : V) (nr i : Nat) (body : List Lt) (s : Ps × Bool) (f : Fr) (w : AW) : Prop :=
  CF f c6 c7 fv ∧ f.get 17 = some rv ∧ f.get 18 = some (.int .i64 (Int.ofNat nr)) ∧ f.get 19 = some (.int .i64 (Int.ofNat i)) ∧ AW9 aw w c6 c7 bm (sees s (body.flatMap litP))
theorem ab_step (C : Codes tab) {T : Nat → Prop} {aw w : AW} {c6 c7 bm nr i : Nat} {fv rv uv : V} {body : List Lt} {s : Ps × Bool} {q : Nat} {f : Fr} {st : List SI} {Q : Fr → AW → Prop} (hu : RdL (LtC T) T aw uv 3 body) (hb : body.length ≤ 1000)
    (hI : ABI aw c6 c7 bm fv rv uv nr i body s q f w) (ih : ∀ n' f' w', n' < q → ABI aw c6 c7 bm fv rv uv nr i body s n' f' w' → WS tab (.code (.loop k_check_Arities_p3) :: .endB 2 :: st) f' w' Q)
    (out : ∀ s' f' w', ABJ aw c6 c7 bm fv rv nr i body s f' w' → popTo 2 s' = some st → WS tab (.code (.exit 2) :: s') f' w' Q) : WS tab (.code k_check_Arities_p3 :: .code (.loop k_check_Arities_p3) :: .endB 2 :: st) f w Q := by
  obtain ⟨j, ⟨f1, f6, f7, f8⟩, f17, f18, f19, f33, f34, f35, hj, rfl, hA⟩ := hI
  by_cases hlt : j < body.length
  case neg =>
    rw [List.take_of_length_le (by omega)] at hA
    refine WS_runB 1000 (by simp only [go_sem, Nat.reduceAdd, Nat.reduceLT, Nat.reduceEqDiff, reduceIte, reduceCtorEq, Int.reduceBEq, Int.reduceBNe, Int.reduceLT, Int.reduceLE, Int.reduceGT, Int.reduceGE, Int.reduceEq, Int.reduceAdd, Int.reduceSub, Int.reduceMul, Nat.reduceMul, Nat.reduceSub, Nat.reduceLeDiff, k_check_Arities_p3, f34, f35, hlt]; rfl) ?_
    exact out _ _ _ ⟨⟨(by simp only [go_sem, eRun_exit, Nat.reduceAdd, Nat.reduceLT, Nat.reduceEqDiff, reduceIte, reduceCtorEq, Int.reduceBEq, Int.reduceBNe, Int.reduceLT, Int.reduceLE, Int.reduceGT, Int.reduceGE, Int.reduceEq, Int.reduceAdd, Int.reduceSub, Int.reduceMul, Nat.reduceMul, Nat.reduceSub, Nat.reduceLeDiff, f1] <;> rfl), (by simp only [go_sem, eRun_exit, Nat.reduceAdd, Nat.reduceLT, Nat.reduceEqDiff, reduceIte, reduceCtorEq, Int.reduceBEq, Int.reduceBNe, Int.reduceLT, Int.reduceLE, Int.reduceGT, Int.reduceGE, Int.reduceEq, Int.reduceAdd, Int.reduceSub, Int.reduceMul, Nat.reduceMul, Nat.reduceSub, Nat.reduceLeDiff, f6] <;> rfl), (by simp only [go_sem, eRun_exit, Nat.reduceAdd, Nat.reduceLT, Nat.reduceEqDiff, reduceIte, reduceCtorEq, Int.reduceBEq, Int.reduceBNe, Int.reduceLT, Int.reduceLE, Int.reduceGT, Int.reduceGE, Int.reduceEq, Int.reduceAdd, Int.reduceSub, Int.reduceMul, Nat.reduceMul, Nat.reduceSub, Nat.reduceLeDiff, f7] <;> rfl), (by simp only [go_sem, eRun_exit, Nat.reduceAdd, Nat.reduceLT, Nat.reduceEqDiff, reduceIte, reduceCtorEq, Int.reduceBEq, Int.reduceBNe, Int.reduceLT, Int.reduceLE, Int.reduceGT, Int.reduceGE, Int.reduceEq, Int.reduceAdd, Int.reduceSub, Int.reduceMul, Nat.reduceMul, Nat.reduceSub, Nat.reduceLeDiff, f8] <;> rfl)⟩, (by simp only [go_sem, eRun_exit, Nat.reduceAdd, Nat.reduceLT, Nat.reduceEqDiff, reduceIte, reduceCtorEq, Int.reduceBEq, Int.reduceBNe, Int.reduceLT, Int.reduceLE, Int.reduceGT, Int.reduceGE, Int.reduceEq, Int.reduceAdd, Int.reduceSub, Int.reduceMul, Nat.reduceMul, Nat.reduceSub, Nat.reduceLeDiff, f17] <;> rfl), (by simp only [go_sem, eRun_exit, Nat.reduceAdd, Nat.reduceLT, Nat.reduceEqDiff, reduceIte, reduceCtorEq, Int.reduceBEq, Int.reduceBNe, Int.reduceLT, Int.reduceLE, Int.reduceGT, Int.reduceGE, Int.reduceEq, Int.reduceAdd, Int.reduceSub, Int.reduceMul, Nat.reduceMul, Nat.reduceSub, Nat.reduceLeDiff, f18] <;> rfl), (by simp only [go_sem, eRun_exit, Nat.reduceAdd, Nat.reduceLT, Nat.reduceEqDiff, reduceIte, reduceCtorEq, Int.reduceBEq, Int.reduceBNe, Int.reduceLT, Int.reduceLE, Int.reduceGT, Int.reduceGE, Int.reduceEq, Int.reduceAdd, Int.reduceSub, Int.reduceMul, Nat.reduceMul, Nat.reduceSub, Nat.reduceLeDiff, f19] <;> rfl), hA⟩ rfl
  obtain ⟨t, ht⟩ : ∃ t, body[j]? = some t := ⟨_, List.getElem?_eq_getElem hlt⟩
  have hwr : IntKind.wrap .i64 (Int.ofNat j + 1) = Int.ofNat (j + 1) := wrap_succ (by omega)
  obtain ⟨b, o, c, u, rfl, _, _, a3, _, _, _, hru⟩ := lits_at (hu.frm (fun _ _ h => h.frm hA.frm fun _ _ h => h) hA.frm fun _ _ h => h) ht
  have hone : allOne [V.int .i64 (Int.ofNat t.kind), .str t.name, u] = true := by rcases hru.inv with ⟨rfl, _⟩ | ⟨_, _, _, rfl, _⟩ <;> rfl
  obtain ⟨w2, s2, c2, r2, n2⟩ := boxed w (zs := [V.int .i64 0, V.str [], V.nilslice]) (vs := [V.int .i64 (Int.ofNat t.kind), .str t.name, u]) rfl hone
  have k0 : w2.load w.next 0 1 = some [.int .i64 (Int.ofNat t.kind)] := by rw [c2.load]; rfl
  have k1 : w2.load w.next 1 1 = some [.str t.name] := by rw [c2.load]; rfl
  have k2 : w2.load w.next 2 1 = some [u] := by rw [c2.load]; rfl
  have hul := hru.lenV
  have hA2 := aw9_ext hA r2
  by_cases hk : t.kind = 1 ∨ t.kind = 2
  case neg =>
    have hk1 : ¬ t.kind = 1 := fun h => hk (.inl h)
    have hk2 : ¬ t.kind = 2 := fun h => hk (.inr h)
    have e : (body.take (j + 1)).flatMap litP = (body.take j).flatMap litP := by
      rw [take_snoc_of ht, List.flatMap_append]; simp [litP, hk]
    refine WS_run 1000 (by simp only [go_sem, eRun_exit, Nat.reduceAdd, Nat.reduceLT, Nat.reduceEqDiff, reduceIte, reduceCtorEq, Int.reduceBEq, Int.reduceBNe, Int.reduceLT, Int.reduceLE, Int.reduceGT, Int.reduceGE, Int.reduceEq, Int.reduceAdd, Int.reduceSub, Int.reduceMul, Nat.reduceMul, Nat.reduceSub, Nat.reduceLeDiff, k_check_Arities_p3, k_check_Arities_p2, k_check_Arities_p1, f33, f34, f35, hlt, a3, s2, k0, hk1, hk2, hwr, List.length_cons, List.length_nil]; rfl) ?_
    exact ih _ _ _ (by omega) ⟨j + 1, ⟨(by simp only [go_sem, eRun_exit, Nat.reduceAdd, Nat.reduceLT, Nat.reduceEqDiff, reduceIte, reduceCtorEq, Int.reduceBEq, Int.reduceBNe, Int.reduceLT, Int.reduceLE, Int.reduceGT, Int.reduceGE, Int.reduceEq, Int.reduceAdd, Int.reduceSub, Int.reduceMul, Nat.reduceMul, Nat.reduceSub, Nat.reduceLeDiff, f1] <;> rfl), (by simp only [go_sem, eRun_exit, Nat.reduceAdd, Nat.reduceLT, Nat.reduceEqDiff, reduceIte, reduceCtorEq, Int.reduceBEq, Int.reduceBNe, Int.reduceLT, Int.reduceLE, Int.reduceGT, Int.reduceGE, Int.reduceEq, Int.reduceAdd, Int.reduceSub, Int.reduceMul, Nat.reduceMul, Nat.reduceSub, Nat.reduceLeDiff, f6] <;> rfl), (by simp only [go_sem, eRun_exit, Nat.reduceAdd, Nat.reduceLT, Nat.reduceEqDiff, reduceIte, reduceCtorEq, Int.reduceBEq, Int.reduceBNe, Int.reduceLT, Int.reduceLE, Int.reduceGT, Int.reduceGE, Int.reduceEq, Int.reduceAdd, Int.reduceSub, Int.reduceMul, Nat.reduceMul, Nat.reduceSub, Nat.reduceLeDiff, f7] <;> rfl), (by simp only [go_sem, eRun_exit, Nat.reduceAdd, Nat.reduceLT, Nat.reduceEqDiff, reduceIte, reduceCtorEq, Int.reduceBEq, Int.reduceBNe, Int.reduceLT, Int.reduceLE, Int.reduceGT, Int.reduceGE, Int.reduceEq, Int.reduceAdd, Int.reduceSub, Int.reduceMul, Nat.reduceMul, Nat.reduceSub, Nat.reduceLeDiff, f8] <;> rfl)⟩, (by simp only [go_sem, eRun_exit, Nat.reduceAdd, Nat.reduceLT, Nat.reduceEqDiff, reduceIte, reduceCtorEq, Int.reduceBEq, Int.reduceBNe, Int.reduceLT, Int.reduceLE, Int.reduceGT, Int.reduceGE, Int.reduceEq, Int.reduceAdd, Int.reduceSub, Int.reduceMul, Nat.reduceMul, Nat.reduceSub, Nat.reduceLeDiff, f17] <;> rfl), (by simp only [go_sem, eRun_exit, Nat.reduceAdd, Nat.reduceLT, Nat.reduceEqDiff, reduceIte, reduceCtorEq, Int.reduceBEq, Int.reduceBNe, Int.reduceLT, Int.reduceLE, Int.reduceGT, Int.reduceGE, Int.reduceEq, Int.reduceAdd, Int.reduceSub, Int.reduceMul, Nat.reduceMul, Nat.reduceSub, Nat.reduceLeDiff, f18] <;> rfl), (by simp only [go_sem, eRun_exit, Nat.reduceAdd, Nat.reduceLT, Nat.reduceEqDiff, reduceIte, reduceCtorEq, Int.reduceBEq, Int.reduceBNe, Int.reduceLT, Int.reduceLE, Int.reduceGT, Int.reduceGE, Int.reduceEq, Int.reduceAdd, Int.reduceSub, Int.reduceMul, Nat.reduceMul, Nat.reduceSub, Nat.reduceLeDiff, f19] <;> rfl), (by simp only [go_sem, eRun_exit, Nat.reduceAdd, Nat.reduceLT, Nat.reduceEqDiff, reduceIte, reduceCtorEq, Int.reduceBEq, Int.reduceBNe, Int.reduceLT, Int.reduceLE, Int.reduceGT, Int.reduceGE, Int.reduceEq, Int.reduceAdd, Int.reduceSub, Int.reduceMul, Nat.reduceMul, Nat.reduceSub, Nat.reduceLeDiff, f33] <;> rfl), (by simp only [go_sem, eRun_exit, Nat.reduceAdd, Nat.reduceLT, Nat.reduceEqDiff, reduceIte, reduceCtorEq, Int.reduceBEq, Int.reduceBNe, Int.reduceLT, Int.reduceLE, Int.reduceGT, Int.reduceGE, Int.reduceEq, Int.reduceAdd, Int.reduceSub, Int.reduceMul, Nat.reduceMul, Nat.reduceSub, Nat.reduceLeDiff, f34] <;> rfl), (by simp only [go_sem, eRun_exit, Nat.reduceAdd, Nat.reduceLT, Nat.reduceEqDiff, reduceIte, reduceCtorEq, Int.reduceBEq, Int.reduceBNe, Int.reduceLT, Int.reduceLE, Int.reduceGT, Int.reduceGE, Int.reduceEq, Int.reduceAdd, Int.reduceSub, Int.reduceMul, Nat.reduceMul, Nat.reduceSub, Nat.reduceLeDiff] <;> rfl), by omega, rfl, by rw [e]; exact hA2⟩
  have e : (body.take (j + 1)).flatMap litP = (body.take j).flatMap litP ++ [(t.name, (t.args.length : Int))] := by
    rw [take_snoc_of ht, List.flatMap_append]; simp [litP, hk]
  have fin : ∀ w3, AW9 aw w3 c6 c7 bm (pSee (sees s ((body.take j).flatMap litP)) (t.name, (t.args.length : Int))) → AW9 aw w3 c6 c7 bm (sees s ((body.take (j + 1)).flatMap litP)) := by
    intro w3 h
    rw [e, sees_app]; exact h
  by_cases hk1 : t.kind = 1
  · rw [hk1] at a3 s2 k0
    refine WS_run 1000 (by simp only [go_sem, eRun_exit, Nat.reduceAdd, Nat.reduceLT, Nat.reduceEqDiff, reduceIte, reduceCtorEq, Int.reduceBEq, Int.reduceBNe, Int.reduceLT, Int.reduceLE, Int.reduceGT, Int.reduceGE, Int.reduceEq, Int.reduceAdd, Int.reduceSub, Int.reduceMul, Nat.reduceMul, Nat.reduceSub, Nat.reduceLeDiff, k_check_Arities_p3, k_check_Arities_p2, k_check_Arities_p1, k_check_Arities_p0, f8, f33, f34, f35, hlt, a3, s2, k0, k1, k2, hul, List.length_cons, List.length_nil]; rfl) ?_
    refine WS_call (by simp only [go_sem, eRun_exit, Nat.reduceAdd, Nat.reduceLT, Nat.reduceEqDiff, reduceIte, reduceCtorEq, Int.reduceBEq, Int.reduceBNe, Int.reduceLT, Int.reduceLE, Int.reduceGT, Int.reduceGE, Int.reduceEq, Int.reduceAdd, Int.reduceSub, Int.reduceMul, Nat.reduceMul, Nat.reduceSub, Nat.reduceLeDiff]) (by simp only [go_sem, eRun_exit, Nat.reduceAdd, Nat.reduceLT, Nat.reduceEqDiff, reduceIte, reduceCtorEq, Int.reduceBEq, Int.reduceBNe, Int.reduceLT, Int.reduceLE, Int.reduceGT, Int.reduceGE, Int.reduceEq, Int.reduceAdd, Int.reduceSub, Int.reduceMul, Nat.reduceMul, Nat.reduceSub, Nat.reduceLeDiff]; rfl) ?_
    refine see_ok C hA2 fun w3 v1 v2 v3 => ?_
    refine WS_run 1000 (by simp only [go_sem, eRun_exit, Nat.reduceAdd, Nat.reduceLT, Nat.reduceEqDiff, reduceIte, reduceCtorEq, Int.reduceBEq, Int.reduceBNe, Int.reduceLT, Int.reduceLE, Int.reduceGT, Int.reduceGE, Int.reduceEq, Int.reduceAdd, Int.reduceSub, Int.reduceMul, Nat.reduceMul, Nat.reduceSub, Nat.reduceLeDiff, f35, hwr]; rfl) ?_
    exact ih _ _ _ (by omega) ⟨j + 1, ⟨(by simp only [go_sem, eRun_exit, Nat.reduceAdd, Nat.reduceLT, Nat.reduceEqDiff, reduceIte, reduceCtorEq, Int.reduceBEq, Int.reduceBNe, Int.reduceLT, Int.reduceLE, Int.reduceGT, Int.reduceGE, Int.reduceEq, Int.reduceAdd, Int.reduceSub, Int.reduceMul, Nat.reduceMul, Nat.reduceSub, Nat.reduceLeDiff, f1] <;> rfl), (by simp only [go_sem, eRun_exit, Nat.reduceAdd, Nat.reduceLT, Nat.reduceEqDiff, reduceIte, reduceCtorEq, Int.reduceBEq, Int.reduceBNe, Int.reduceLT, Int.reduceLE, Int.reduceGT, Int.reduceGE, Int.reduceEq, Int.reduceAdd, Int.reduceSub, Int.reduceMul, Nat.reduceMul, Nat.reduceSub, Nat.reduceLeDiff, f6] <;> rfl), (by simp only [go_sem, eRun_exit, Nat.reduceAdd, Nat.reduceLT, Nat.reduceEqDiff, reduceIte, reduceCtorEq, Int.reduceBEq, Int.reduceBNe, Int.reduceLT, Int.reduceLE, Int.reduceGT, Int.reduceGE, Int.reduceEq, Int.reduceAdd, Int.reduceSub, Int.reduceMul, Nat.reduceMul, Nat.reduceSub, Nat.reduceLeDiff, f7] <;> rfl), (by simp only [go_sem, eRun_exit, Nat.reduceAdd, Nat.reduceLT, Nat.reduceEqDiff, reduceIte, reduceCtorEq, Int.reduceBEq, Int.reduceBNe, Int.reduceLT, Int.reduceLE, Int.reduceGT, Int.reduceGE, Int.reduceEq, Int.reduceAdd, Int.reduceSub, Int.reduceMul, Nat.reduceMul, Nat.reduceSub, Nat.reduceLeDiff, f8] <;> rfl)⟩, (by simp only [go_sem, eRun_exit, Nat.reduceAdd, Nat.reduceLT, Nat.reduceEqDiff, reduceIte, reduceCtorEq, Int.reduceBEq, Int.reduceBNe, Int.reduceLT, Int.reduceLE, Int.reduceGT, Int.reduceGE, Int.reduceEq, Int.reduceAdd, Int.reduceSub, Int.reduceMul, Nat.reduceMul, Nat.reduceSub, Nat.reduceLeDiff, f17] <;> rfl), (by simp only [go_sem, eRun_exit, Nat.reduceAdd, Nat.reduceLT, Nat.reduceEqDiff, reduceIte, reduceCtorEq, Int.reduceBEq, Int.reduceBNe, Int.reduceLT, Int.reduceLE, Int.reduceGT, Int.reduceGE, Int.reduceEq, Int.reduceAdd, Int.reduceSub, Int.reduceMul, Nat.reduceMul, Nat.reduceSub, Nat.reduceLeDiff, f18] <;> rfl), (by simp only [go_sem, eRun_exit, Nat.reduceAdd, Nat.reduceLT, Nat.reduceEqDiff, reduceIte, reduceCtorEq, Int.reduceBEq, Int.reduceBNe, Int.reduceLT, Int.reduceLE, Int.reduceGT, Int.reduceGE, Int.reduceEq, Int.reduceAdd, Int.reduceSub, Int.reduceMul, Nat.reduceMul, Nat.reduceSub, Nat.reduceLeDiff, f19] <;> rfl), (by simp only [go_sem, eRun_exit, Nat.reduceAdd, Nat.reduceLT, Nat.reduceEqDiff, reduceIte, reduceCtorEq, Int.reduceBEq, Int.reduceBNe, Int.reduceLT, Int.reduceLE, Int.reduceGT, Int.reduceGE, Int.reduceEq, Int.reduceAdd, Int.reduceSub, Int.reduceMul, Nat.reduceMul, Nat.reduceSub, Nat.reduceLeDiff, f33] <;> rfl), (by simp only [go_sem, eRun_exit, Nat.reduceAdd, Nat.reduceLT, Nat.reduceEqDiff, reduceIte, reduceCtorEq, Int.reduceBEq, Int.reduceBNe, Int.reduceLT, Int.reduceLE, Int.reduceGT, Int.reduceGE, Int.reduceEq, Int.reduceAdd, Int.reduceSub, Int.reduceMul, Nat.reduceMul, Nat.reduceSub, Nat.reduceLeDiff, f34] <;> rfl), (by simp only [go_sem, eRun_exit, Nat.reduceAdd, Nat.reduceLT, Nat.reduceEqDiff, reduceIte, reduceCtorEq, Int.reduceBEq, Int.reduceBNe, Int.reduceLT, Int.reduceLE, Int.reduceGT, Int.reduceGE, Int.reduceEq, Int.reduceAdd, Int.reduceSub, Int.reduceMul, Nat.reduceMul, Nat.reduceSub, Nat.reduceLeDiff] <;> rfl), by omega, rfl, fin w3 v1⟩
  · have hk2 := hk.resolve_left hk1
    rw [hk2] at a3 s2 k0
    refine WS_run 1000 (by simp only [go_sem, eRun_exit, Nat.reduceAdd, Nat.reduceLT, Nat.reduceEqDiff, reduceIte, reduceCtorEq, Int.reduceBEq, Int.reduceBNe, Int.reduceLT, Int.reduceLE, Int.reduceGT, Int.reduceGE, Int.reduceEq, Int.reduceAdd, Int.reduceSub, Int.reduceMul, Nat.reduceMul, Nat.reduceSub, Nat.reduceLeDiff, k_check_Arities_p3, k_check_Arities_p2, k_check_Arities_p1, k_check_Arities_p0, f8, f33, f34, f35, hlt, a3, s2, k0, k1, k2, hul, List.length_cons, List.length_nil]; rfl) ?_
    refine WS_call (by simp only [go_sem, eRun_exit, Nat.reduceAdd, Nat.reduceLT, Nat.reduceEqDiff, reduceIte, reduceCtorEq, Int.reduceBEq, Int.reduceBNe, Int.reduceLT, Int.reduceLE, Int.reduceGT, Int.reduceGE, Int.reduceEq, Int.reduceAdd, Int.reduceSub, Int.reduceMul, Nat.reduceMul, Nat.reduceSub, Nat.reduceLeDiff]) (by simp only [go_sem, eRun_exit, Nat.reduceAdd, Nat.reduceLT, Nat.reduceEqDiff, reduceIte, reduceCtorEq, Int.reduceBEq, Int.reduceBNe, Int.reduceLT, Int.reduceLE, Int.reduceGT, Int.reduceGE, Int.reduceEq, Int.reduceAdd, Int.reduceSub, Int.reduceMul, Nat.reduceMul, Nat.reduceSub, Nat.reduceLeDiff]; rfl) ?_
    refine see_ok C hA2 fun w3 v1 v2 v3 => ?_
    refine WS_run 1000 (by simp only [go_sem, eRun_exit, Nat.reduceAdd, Nat.reduceLT, Nat.reduceEqDiff, reduceIte, reduceCtorEq, Int.reduceBEq, Int.reduceBNe, Int.reduceLT, Int.reduceLE, Int.reduceGT, Int.reduceGE, Int.reduceEq, Int.reduceAdd, Int.reduceSub, Int.reduceMul, Nat.reduceMul, Nat.reduceSub, Nat.reduceLeDiff, f35, hwr]; rfl) ?_
    exact ih _ _ _ (by omega) ⟨j + 1, ⟨(by simp only [go_sem, eRun_exit, Nat.reduceAdd, Nat.reduceLT, Nat.reduceEqDiff, reduceIte, reduceCtorEq, Int.reduceBEq, Int.reduceBNe, Int.reduceLT, Int.reduceLE, Int.reduceGT, Int.reduceGE, Int.reduceEq, Int.reduceAdd, Int.reduceSub, Int.reduceMul, Nat.reduceMul, Nat.reduceSub, Nat.reduceLeDiff, f1] <;> rfl), (by simp only [go_sem, eRun_exit, Nat.reduceAdd, Nat.reduceLT, Nat.reduceEqDiff, reduceIte, reduceCtorEq, Int.reduceBEq, Int.reduceBNe, Int.reduceLT, Int.reduceLE, Int.reduceGT, Int.reduceGE, Int.reduceEq, Int.reduceAdd, Int.reduceSub, Int.reduceMul, Nat.reduceMul, Nat.reduceSub, Nat.reduceLeDiff, f6] <;> rfl), (by simp only [go_sem, eRun_exit, Nat.reduceAdd, Nat.reduceLT, Nat.reduceEqDiff, reduceIte, reduceCtorEq, Int.reduceBEq, Int.reduceBNe, Int.reduceLT, Int.reduceLE, Int.reduceGT, Int.reduceGE, Int.reduceEq, Int.reduceAdd, Int.reduceSub, Int.reduceMul, Nat.reduceMul, Nat.reduceSub, Nat.reduceLeDiff, f7] <;> rfl), (by simp only [go_sem, eRun_exit, Nat.reduceAdd, Nat.reduceLT, Nat.reduceEqDiff, reduceIte, reduceCtorEq, Int.reduceBEq, Int.reduceBNe, Int.reduceLT, Int.reduceLE, Int.reduceGT, Int.reduceGE, Int.reduceEq, Int.reduceAdd, Int.reduceSub, Int.reduceMul, Nat.reduceMul, Nat.reduceSub, Nat.reduceLeDiff, f8] <;> rfl)⟩, (by simp only [go_sem, eRun_exit, Nat.reduceAdd, Nat.reduceLT, Nat.reduceEqDiff, reduceIte, reduceCtorEq, Int.reduceBEq, Int.reduceBNe, Int.reduceLT, Int.reduceLE, Int.reduceGT, Int.reduceGE, Int.reduceEq, Int.reduceAdd, Int.reduceSub, Int.reduceMul, Nat.reduceMul, Nat.reduceSub, Nat.reduceLeDiff, f17] <;> rfl), (by simp only [go_sem, eRun_exit, Nat.reduceAdd, Nat.reduceLT, Nat.reduceEqDiff, reduceIte, reduceCtorEq, Int.reduceBEq, Int.reduceBNe, Int.reduceLT, Int.reduceLE, Int.reduceGT, Int.reduceGE, Int.reduceEq, Int.reduceAdd, Int.reduceSub, Int.reduceMul, Nat.reduceMul, Nat.reduceSub, Nat.reduceLeDiff, f18] <;> rfl), (by simp only [go_sem, eRun_exit, Nat.reduceAdd, Nat.reduceLT, Nat.reduceEqDiff, reduceIte, reduceCtorEq, Int.reduceBEq, Int.reduceBNe, Int.reduceLT, Int.reduceLE, Int.reduceGT, Int.reduceGE, Int.reduceEq, Int.reduceAdd, Int.reduceSub, Int.reduceMul, Nat.reduceMul, Nat.reduceSub, Nat.reduceLeDiff, f19] <;> rfl), (by simp only [go_sem, eRun_exit, Nat.reduceAdd, Nat.reduceLT, Nat.reduceEqDiff, reduceIte, reduceCtorEq, Int.reduceBEq, Int.reduceBNe, Int.reduceLT, Int.reduceLE, Int.reduceGT, Int.reduceGE, Int.reduceEq, Int.reduceAdd, Int.reduceSub, Int.reduceMul, Nat.reduceMul, Nat.reduceSub, Nat.reduceLeDiff, f33] <;> rfl), (by simp only [go_sem, eRun_exit, Nat.reduceAdd, Nat.reduceLT, Nat.reduceEqDiff, reduceIte, reduceCtorEq, Int.reduceBEq, Int.reduceBNe, Int.reduceLT, Int.reduceLE, Int.reduceGT, Int.reduceGE, Int.reduceEq, Int.reduceAdd, Int.reduceSub, Int.reduceMul, Nat.reduceMul, Nat.reduceSub, Nat.reduceLeDiff, f34] <;> rfl), (by simp only [go_sem, eRun_exit, Nat.reduceAdd, Nat.reduceLT, Nat.reduceEqDiff, reduceIte, reduceCtorEq, Int.reduceBEq, Int.reduceBNe, Int.reduceLT, Int.reduceLE, Int.reduceGT, Int.reduceGE, Int.reduceEq, Int.reduceAdd, Int.reduceSub, Int.reduceMul, Nat.reduceMul, Nat.reduceSub, Nat.reduceLeDiff] <;> rfl), by omega, rfl, fin w3 v1⟩
def ARI (aw : AW) (c6 c7 bm : Nat) (fv rv : V) (rules : List Rl) (q : Nat) (f : Fr) (w : AW) : Prop :=
  ∃ i, CF f c6 c7 fv ∧ f.get 17 = some rv ∧ f.get 18 = some (.int .i64 (Int.ofNat rules.length)) ∧ f.get 19 = some (.int .i64 (Int.ofNat i)) ∧ i ≤ rules.length ∧ q = rules.length - i ∧ AW9 aw w c6 c7 bm (sees st0 ((rules.take i).flatMap ruleP))
def AFI (aw : AW) (c6 c7 bm : Nat) (fv : V) (rules : List Rl) (facts : List Fa) (q : Nat) (f : Fr) (w : AW) : Prop :=
  ∃ i, CF f c6 c7 fv ∧ f.get 56 = some fv ∧ f.get 57 = some (.int .i64 (Int.ofNat facts.length)) ∧ f.get 58 = some (.int .i64 (Int.ofNat i)) ∧ i ≤ facts.length ∧ q = facts.length - i ∧ AW9 aw w c6 c7 bm (sees (sees st0 (rules.flatMap ruleP)) ((facts.take i).flatMap factP))
/-- Arities. -/
theorem arities_ok (C : Codes tab) {T T2 : Nat → Prop} {aw : AW} {rv fv : V} {rules : List Rl} {facts : List Fa} {K : V → AW → Prop} (hr : RdL (RlC T) T aw rv 4 rules) (hf : RdL (FaC T2) T2 aw fv 2 facts) (hbd : Bds rules facts)
    (h1 : ∀ w bm, (sees st0 (allP rules facts)).2 = true → SM w bm (sees st0 (allP rules facts)).1 → aw.next ≤ bm → Frm (fun _ => False) aw w → K (.tuple [.map bm, .int .i64 0]) w)
    (h2 : ∀ w, (sees st0 (allP rules facts)).2 = false → Frm (fun _ => False) aw w → K (.tuple [.nilmap, .int .i64 6]) w) : WF tab n_check_Arities [rv, fv] aw K := by
  refine WF_of C.c_check_Arities rfl ?_
  have hlv := rdL_lenV hr
  have hlf := rdL_lenV hf
  have hr := rls_cut hr
  obtain ⟨w1, hw1⟩ : ∃ w1, w1 = aw.new (.map [] 0) := ⟨_, rfl⟩
  have fm : Frm (fun _ => False) aw w1 := hw1 ▸ mnew_frm aw
  have hM : SM w1 aw.next ([] : Ps) := hw1 ▸ MB.new aw
  have n1 : w1.next = aw.next + 1 := by rw [hw1]; rfl
  obtain ⟨w2, s2, c2, r2, n2⟩ := boxed w1 (zs := [V.nilmap]) (vs := [V.map aw.next]) rfl rfl
  obtain ⟨w3, s3, c3, r3, n3⟩ := boxed w2 (zs := [V.bool false]) (vs := [V.bool true]) rfl rfl
  have hA0 : AW9 aw w3 w1.next w2.next aw.next st0 := ⟨c2.frm r3 fun h => h, c3, (hM.frm r2 fun h => h).frm r3 fun h => h, (fm.tr r2).tr r3, by omega⟩
  refine WS_run 1000 (by simp only [go_sem, eRun_exit, Nat.reduceAdd, Nat.reduceLT, Nat.reduceEqDiff, reduceIte, reduceCtorEq, Int.reduceBEq, Int.reduceBNe, Int.reduceLT, Int.reduceLE, Int.reduceGT, Int.reduceGE, Int.reduceEq, Int.reduceAdd, Int.reduceSub, Int.reduceMul, Nat.reduceMul, Nat.reduceSub, Nat.reduceLeDiff, k_check_Arities, k_check_Arities_p13, k_check_Arities_p12, ← hw1, s2, s3, hlv, List.length_cons, List.length_nil]; rfl) ?_
  refine WS_loopJ (ARI aw w1.next w2.next aw.next fv rv rules) (fun f w => CF f w1.next w2.next fv ∧ AW9 aw w w1.next w2.next aw.next (sees st0 (rules.flatMap ruleP))) ?_ ?_ rules.length ⟨0, ⟨(by simp only [go_sem, eRun_exit, Nat.reduceAdd, Nat.reduceLT, Nat.reduceEqDiff, reduceIte, reduceCtorEq, Int.reduceBEq, Int.reduceBNe, Int.reduceLT, Int.reduceLE, Int.reduceGT, Int.reduceGE, Int.reduceEq, Int.reduceAdd, Int.reduceSub, Int.reduceMul, Nat.reduceMul, Nat.reduceSub, Nat.reduceLeDiff] <;> rfl), (by simp only [go_sem, eRun_exit, Nat.reduceAdd, Nat.reduceLT, Nat.reduceEqDiff, reduceIte, reduceCtorEq, Int.reduceBEq, Int.reduceBNe, Int.reduceLT, Int.reduceLE, Int.reduceGT, Int.reduceGE, Int.reduceEq, Int.reduceAdd, Int.reduceSub, Int.reduceMul, Nat.reduceMul, Nat.reduceSub, Nat.reduceLeDiff] <;> rfl), (by simp only [go_sem, eRun_exit, Nat.reduceAdd, Nat.reduceLT, Nat.reduceEqDiff, reduceIte, reduceCtorEq, Int.reduceBEq, Int.reduceBNe, Int.reduceLT, Int.reduceLE, Int.reduceGT, Int.reduceGE, Int.reduceEq, Int.reduceAdd, Int.reduceSub, Int.reduceMul, Nat.reduceMul, Nat.reduceSub, Nat.reduceLeDiff] <;> rfl), (by simp only [go_sem, eRun_exit, Nat.reduceAdd, Nat.reduceLT, Nat.reduceEqDiff, reduceIte, reduceCtorEq, Int.reduceBEq, Int.reduceBNe, Int.reduceLT, Int.reduceLE, Int.reduceGT, Int.reduceGE, Int.reduceEq, Int.reduceAdd, Int.reduceSub, Int.reduceMul, Nat.reduceMul, Nat.reduceSub, Nat.reduceLeDiff] <;> rfl)⟩, (by simp only [go_sem, eRun_exit, Nat.reduceAdd, Nat.reduceLT, Nat.reduceEqDiff, reduceIte, reduceCtorEq, Int.reduceBEq, Int.reduceBNe, Int.reduceLT, Int.reduceLE, Int.reduceGT, Int.reduceGE, Int.reduceEq, Int.reduceAdd, Int.reduceSub, Int.reduceMul, Nat.reduceMul, Nat.reduceSub, Nat.reduceLeDiff] <;> rfl), (by simp only [go_sem, eRun_exit, Nat.reduceAdd, Nat.reduceLT, Nat.reduceEqDiff, reduceIte, reduceCtorEq, Int.reduceBEq, Int.reduceBNe, Int.reduceLT, Int.reduceLE, Int.reduceGT, Int.reduceGE, Int.reduceEq, Int.reduceAdd, Int.reduceSub, Int.reduceMul, Nat.reduceMul, Nat.reduceSub, Nat.reduceLeDiff] <;> rfl), (by simp only [go_sem, eRun_exit, Nat.reduceAdd, Nat.reduceLT, Nat.reduceEqDiff, reduceIte, reduceCtorEq, Int.reduceBEq, Int.reduceBNe, Int.reduceLT, Int.reduceLE, Int.reduceGT, Int.reduceGE, Int.reduceEq, Int.reduceAdd, Int.reduceSub, Int.reduceMul, Nat.reduceMul, Nat.reduceSub, Nat.reduceLeDiff] <;> rfl), by omega, rfl, hA0⟩
  · rintro q f w ⟨i, ⟨f1, f6, f7, f8⟩, f17, f18, f19, hi, rfl, hA⟩ ih exit
    by_cases hlt : i < rules.length
    case neg =>
      rw [List.take_of_length_le (by omega)] at hA
      refine WS_runB 1000 (by simp only [go_sem, Nat.reduceAdd, Nat.reduceLT, Nat.reduceEqDiff, reduceIte, reduceCtorEq, Int.reduceBEq, Int.reduceBNe, Int.reduceLT, Int.reduceLE, Int.reduceGT, Int.reduceGE, Int.reduceEq, Int.reduceAdd, Int.reduceSub, Int.reduceMul, Nat.reduceMul, Nat.reduceSub, Nat.reduceLeDiff, k_check_Arities_p6, f18, f19, hlt]; rfl) ?_
      exact exit _ _ _ ⟨⟨(by simp only [go_sem, eRun_exit, Nat.reduceAdd, Nat.reduceLT, Nat.reduceEqDiff, reduceIte, reduceCtorEq, Int.reduceBEq, Int.reduceBNe, Int.reduceLT, Int.reduceLE, Int.reduceGT, Int.reduceGE, Int.reduceEq, Int.reduceAdd, Int.reduceSub, Int.reduceMul, Nat.reduceMul, Nat.reduceSub, Nat.reduceLeDiff, f1] <;> rfl), (by simp only [go_sem, eRun_exit, Nat.reduceAdd, Nat.reduceLT, Nat.reduceEqDiff, reduceIte, reduceCtorEq, Int.reduceBEq, Int.reduceBNe, Int.reduceLT, Int.reduceLE, Int.reduceGT, Int.reduceGE, Int.reduceEq, Int.reduceAdd, Int.reduceSub, Int.reduceMul, Nat.reduceMul, Nat.reduceSub, Nat.reduceLeDiff, f6] <;> rfl), (by simp only [go_sem, eRun_exit, Nat.reduceAdd, Nat.reduceLT, Nat.reduceEqDiff, reduceIte, reduceCtorEq, Int.reduceBEq, Int.reduceBNe, Int.reduceLT, Int.reduceLE, Int.reduceGT, Int.reduceGE, Int.reduceEq, Int.reduceAdd, Int.reduceSub, Int.reduceMul, Nat.reduceMul, Nat.reduceSub, Nat.reduceLeDiff, f7] <;> rfl), (by simp only [go_sem, eRun_exit, Nat.reduceAdd, Nat.reduceLT, Nat.reduceEqDiff, reduceIte, reduceCtorEq, Int.reduceBEq, Int.reduceBNe, Int.reduceLT, Int.reduceLE, Int.reduceGT, Int.reduceGE, Int.reduceEq, Int.reduceAdd, Int.reduceSub, Int.reduceMul, Nat.reduceMul, Nat.reduceSub, Nat.reduceLeDiff, f8] <;> rfl)⟩, hA⟩ rfl
    obtain ⟨r, hrr⟩ : ∃ t, rules[i]? = some t := ⟨_, List.getElem?_eq_getElem hlt⟩
    have hbr := hbd.rl r (List.mem_of_getElem? hrr)
    have hwr : IntKind.wrap .i64 (Int.ofNat i + 1) = Int.ofNat (i + 1) := wrap_succ (by have := hbd.n; omega)
    obtain ⟨b, o, c, xs, rfl, hxs, a4, _⟩ := rls_at2 hr hA.frm hrr
    have hone := hxs.one
    obtain ⟨v, u, rfl, hv, hu⟩ := hxs
    obtain ⟨w5, s5, c5, r5, n5⟩ := boxed w (zs := [V.int .i64 0, V.str [], V.nilslice, V.nilslice]) (vs := [V.int .i64 (Int.ofNat r.head.kind), .str r.head.name, v, u]) rfl hone.2
    have k1 : w5.load w.next 1 1 = some [.str r.head.name] := by rw [c5.load]; rfl
    have k2 : w5.load w.next 2 1 = some [v] := by rw [c5.load]; rfl
    have hvl := hv.lenV
    refine WS_run 1000 (by simp only [go_sem, eRun_exit, Nat.reduceAdd, Nat.reduceLT, Nat.reduceEqDiff, reduceIte, reduceCtorEq, Int.reduceBEq, Int.reduceBNe, Int.reduceLT, Int.reduceLE, Int.reduceGT, Int.reduceGE, Int.reduceEq, Int.reduceAdd, Int.reduceSub, Int.reduceMul, Nat.reduceMul, Nat.reduceSub, Nat.reduceLeDiff, k_check_Arities_p6, k_check_Arities_p5, k_check_Arities_p4, f8, f17, f18, f19, hlt, a4, s5, k1, k2, hvl, List.length_cons, List.length_nil]; rfl) ?_
    refine WS_call (by simp only [go_sem, eRun_exit, Nat.reduceAdd, Nat.reduceLT, Nat.reduceEqDiff, reduceIte, reduceCtorEq, Int.reduceBEq, Int.reduceBNe, Int.reduceLT, Int.reduceLE, Int.reduceGT, Int.reduceGE, Int.reduceEq, Int.reduceAdd, Int.reduceSub, Int.reduceMul, Nat.reduceMul, Nat.reduceSub, Nat.reduceLeDiff]) (by simp only [go_sem, eRun_exit, Nat.reduceAdd, Nat.reduceLT, Nat.reduceEqDiff, reduceIte, reduceCtorEq, Int.reduceBEq, Int.reduceBNe, Int.reduceLT, Int.reduceLE, Int.reduceGT, Int.reduceGE, Int.reduceEq, Int.reduceAdd, Int.reduceSub, Int.reduceMul, Nat.reduceMul, Nat.reduceSub, Nat.reduceLeDiff]; rfl) ?_
    refine see_ok C (aw9_ext hA r5) fun w6 v1 v2 v3 => ?_
    have c6 := c5.frm v2 (by have := hA.a7.lt; have := hA.mp.lt; show ¬ (w.next = w2.next ∨ w.next = aw.next); omega)
    have k3 : w6.load w.next 3 1 = some [u] := by rw [c6.load]; rfl
    have hul := rdL_lenV hu
    have hge := v1.ge
    refine WS_run 1000 (by simp only [go_sem, eRun_exit, Nat.reduceAdd, Nat.reduceLT, Nat.reduceEqDiff, reduceIte, reduceCtorEq, Int.reduceBEq, Int.reduceBNe, Int.reduceLT, Int.reduceLE, Int.reduceGT, Int.reduceGE, Int.reduceEq, Int.reduceAdd, Int.reduceSub, Int.reduceMul, Nat.reduceMul, Nat.reduceSub, Nat.reduceLeDiff, k3, hul]; rfl) ?_
    have hsame : sees (pSee (sees st0 ((rules.take i).flatMap ruleP)) (r.head.name, (r.head.args.length : Int))) (r.body.flatMap litP) = sees st0 ((rules.take (i + 1)).flatMap ruleP) := by
      rw [take_snoc_of hrr, List.flatMap_append, sees_app]
      simp only [List.flatMap_cons, List.flatMap_nil, List.append_nil, ruleP]
      rfl
    refine WS_loopJ (ABI aw w1.next w2.next aw.next fv (.slice b o rules.length c) u rules.length i r.body (pSee (sees st0 ((rules.take i).flatMap ruleP)) (r.head.name, (r.head.args.length : Int)))) (ABJ aw w1.next w2.next aw.next fv (.slice b o rules.length c) rules.length i r.body (pSee (sees st0 ((rules.take i).flatMap ruleP)) (r.head.name, (r.head.args.length : Int)))) (fun n f w hI ih out => ab_step C hu hbr.body hI ih out) ?_ r.body.length
      ⟨0, ⟨(by simp only [go_sem, eRun_exit, Nat.reduceAdd, Nat.reduceLT, Nat.reduceEqDiff, reduceIte, reduceCtorEq, Int.reduceBEq, Int.reduceBNe, Int.reduceLT, Int.reduceLE, Int.reduceGT, Int.reduceGE, Int.reduceEq, Int.reduceAdd, Int.reduceSub, Int.reduceMul, Nat.reduceMul, Nat.reduceSub, Nat.reduceLeDiff, f1] <;> rfl), (by simp only [go_sem, eRun_exit, Nat.reduceAdd, Nat.reduceLT, Nat.reduceEqDiff, reduceIte, reduceCtorEq, Int.reduceBEq, Int.reduceBNe, Int.reduceLT, Int.reduceLE, Int.reduceGT, Int.reduceGE, Int.reduceEq, Int.reduceAdd, Int.reduceSub, Int.reduceMul, Nat.reduceMul, Nat.reduceSub, Nat.reduceLeDiff, f6] <;> rfl), (by simp only [go_sem, eRun_exit, Nat.reduceAdd, Nat.reduceLT, Nat.reduceEqDiff, reduceIte, reduceCtorEq, Int.reduceBEq, Int.reduceBNe, Int.reduceLT, Int.reduceLE, Int.reduceGT, Int.reduceGE, Int.reduceEq, Int.reduceAdd, Int.reduceSub, Int.reduceMul, Nat.reduceMul, Nat.reduceSub, Nat.reduceLeDiff, f7] <;> rfl), (by simp only [go_sem, eRun_exit, Nat.reduceAdd, Nat.reduceLT, Nat.reduceEqDiff, reduceIte, reduceCtorEq, Int.reduceBEq, Int.reduceBNe, Int.reduceLT, Int.reduceLE, Int.reduceGT, Int.reduceGE, Int.reduceEq, Int.reduceAdd, Int.reduceSub, Int.reduceMul, Nat.reduceMul, Nat.reduceSub, Nat.reduceLeDiff, f8] <;> rfl)⟩, (by simp only [go_sem, eRun_exit, Nat.reduceAdd, Nat.reduceLT, Nat.reduceEqDiff, reduceIte, reduceCtorEq, Int.reduceBEq, Int.reduceBNe, Int.reduceLT, Int.reduceLE, Int.reduceGT, Int.reduceGE, Int.reduceEq, Int.reduceAdd, Int.reduceSub, Int.reduceMul, Nat.reduceMul, Nat.reduceSub, Nat.reduceLeDiff, f17] <;> rfl), (by simp only [go_sem, eRun_exit, Nat.reduceAdd, Nat.reduceLT, Nat.reduceEqDiff, reduceIte, reduceCtorEq, Int.reduceBEq, Int.reduceBNe, Int.reduceLT, Int.reduceLE, Int.reduceGT, Int.reduceGE, Int.reduceEq, Int.reduceAdd, Int.reduceSub, Int.reduceMul, Nat.reduceMul, Nat.reduceSub, Nat.reduceLeDiff, f18] <;> rfl), (by simp only [go_sem, eRun_exit, Nat.reduceAdd, Nat.reduceLT, Nat.reduceEqDiff, reduceIte, reduceCtorEq, Int.reduceBEq, Int.reduceBNe, Int.reduceLT, Int.reduceLE, Int.reduceGT, Int.reduceGE, Int.reduceEq, Int.reduceAdd, Int.reduceSub, Int.reduceMul, Nat.reduceMul, Nat.reduceSub, Nat.reduceLeDiff, f19] <;> rfl), (by simp only [go_sem, eRun_exit, Nat.reduceAdd, Nat.reduceLT, Nat.reduceEqDiff, reduceIte, reduceCtorEq, Int.reduceBEq, Int.reduceBNe, Int.reduceLT, Int.reduceLE, Int.reduceGT, Int.reduceGE, Int.reduceEq, Int.reduceAdd, Int.reduceSub, Int.reduceMul, Nat.reduceMul, Nat.reduceSub, Nat.reduceLeDiff] <;> rfl), (by simp only [go_sem, eRun_exit, Nat.reduceAdd, Nat.reduceLT, Nat.reduceEqDiff, reduceIte, reduceCtorEq, Int.reduceBEq, Int.reduceBNe, Int.reduceLT, Int.reduceLE, Int.reduceGT, Int.reduceGE, Int.reduceEq, Int.reduceAdd, Int.reduceSub, Int.reduceMul, Nat.reduceMul, Nat.reduceSub, Nat.reduceLeDiff] <;> rfl), (by simp only [go_sem, eRun_exit, Nat.reduceAdd, Nat.reduceLT, Nat.reduceEqDiff, reduceIte, reduceCtorEq, Int.reduceBEq, Int.reduceBNe, Int.reduceLT, Int.reduceLE, Int.reduceGT, Int.reduceGE, Int.reduceEq, Int.reduceAdd, Int.reduceSub, Int.reduceMul, Nat.reduceMul, Nat.reduceSub, Nat.reduceLeDiff] <;> rfl), by omega, rfl, v1⟩
    rintro f w7 ⟨⟨f1, f6, f7, f8⟩, f17, f18, f19, hA7⟩
    rw [hsame] at hA7
    refine WS_run 1000 (by simp only [go_sem, eRun_exit, Nat.reduceAdd, Nat.reduceLT, Nat.reduceEqDiff, reduceIte, reduceCtorEq, Int.reduceBEq, Int.reduceBNe, Int.reduceLT, Int.reduceLE, Int.reduceGT, Int.reduceGE, Int.reduceEq, Int.reduceAdd, Int.reduceSub, Int.reduceMul, Nat.reduceMul, Nat.reduceSub, Nat.reduceLeDiff, f19, hwr]; rfl) ?_
    exact ih _ _ _ (by omega) ⟨i + 1, ⟨(by simp only [go_sem, eRun_exit, Nat.reduceAdd, Nat.reduceLT, Nat.reduceEqDiff, reduceIte, reduceCtorEq, Int.reduceBEq, Int.reduceBNe, Int.reduceLT, Int.reduceLE, Int.reduceGT, Int.reduceGE, Int.reduceEq, Int.reduceAdd, Int.reduceSub, Int.reduceMul, Nat.reduceMul, Nat.reduceSub, Nat.reduceLeDiff, f1] <;> rfl), (by simp only [go_sem, eRun_exit, Nat.reduceAdd, Nat.reduceLT, Nat.reduceEqDiff, reduceIte, reduceCtorEq, Int.reduceBEq, Int.reduceBNe, Int.reduceLT, Int.reduceLE, Int.reduceGT, Int.reduceGE, Int.reduceEq, Int.reduceAdd, Int.reduceSub, Int.reduceMul, Nat.reduceMul, Nat.reduceSub, Nat.reduceLeDiff, f6] <;> rfl), (by simp only [go_sem, eRun_exit, Nat.reduceAdd, Nat.reduceLT, Nat.reduceEqDiff, reduceIte, reduceCtorEq, Int.reduceBEq, Int.reduceBNe, Int.reduceLT, Int.reduceLE, Int.reduceGT, Int.reduceGE, Int.reduceEq, Int.reduceAdd, Int.reduceSub, Int.reduceMul, Nat.reduceMul, Nat.reduceSub, Nat.reduceLeDiff, f7] <;> rfl), (by simp only [go_sem, eRun_exit, Nat.reduceAdd, Nat.reduceLT, Nat.reduceEqDiff, reduceIte, reduceCtorEq, Int.reduceBEq, Int.reduceBNe, Int.reduceLT, Int.reduceLE, Int.reduceGT, Int.reduceGE, Int.reduceEq, Int.reduceAdd, Int.reduceSub, Int.reduceMul, Nat.reduceMul, Nat.reduceSub, Nat.reduceLeDiff, f8] <;> rfl)⟩, (by simp only [go_sem, eRun_exit, Nat.reduceAdd, Nat.reduceLT, Nat.reduceEqDiff, reduceIte, reduceCtorEq, Int.reduceBEq, Int.reduceBNe, Int.reduceLT, Int.reduceLE, Int.reduceGT, Int.reduceGE, Int.reduceEq, Int.reduceAdd, Int.reduceSub, Int.reduceMul, Nat.reduceMul, Nat.reduceSub, Nat.reduceLeDiff, f17] <;> rfl), (by simp only [go_sem, eRun_exit, Nat.reduceAdd, Nat.reduceLT, Nat.reduceEqDiff, reduceIte, reduceCtorEq, Int.reduceBEq, Int.reduceBNe, Int.reduceLT, Int.reduceLE, Int.reduceGT, Int.reduceGE, Int.reduceEq, Int.reduceAdd, Int.reduceSub, Int.reduceMul, Nat.reduceMul, Nat.reduceSub, Nat.reduceLeDiff, f18] <;> rfl), (by simp only [go_sem, eRun_exit, Nat.reduceAdd, Nat.reduceLT, Nat.reduceEqDiff, reduceIte, reduceCtorEq, Int.reduceBEq, Int.reduceBNe, Int.reduceLT, Int.reduceLE, Int.reduceGT, Int.reduceGE, Int.reduceEq, Int.reduceAdd, Int.reduceSub, Int.reduceMul, Nat.reduceMul, Nat.reduceSub, Nat.reduceLeDiff] <;> rfl), by omega, rfl, hA7⟩
  · rintro f w ⟨⟨f1, f6, f7, f8⟩, hA⟩
    refine WS_run 1000 (by simp only [go_sem, eRun_exit, Nat.reduceAdd, Nat.reduceLT, Nat.reduceEqDiff, reduceIte, reduceCtorEq, Int.reduceBEq, Int.reduceBNe, Int.reduceLT, Int.reduceLE, Int.reduceGT, Int.reduceGE, Int.reduceEq, Int.reduceAdd, Int.reduceSub, Int.reduceMul, Nat.reduceMul, Nat.reduceSub, Nat.reduceLeDiff, f1, hlf]; rfl) ?_
    refine WS_loopJ (AFI aw w1.next w2.next aw.next fv rules facts) (fun f w => CF f w1.next w2.next fv ∧ AW9 aw w w1.next w2.next aw.next (sees st0 (allP rules facts))) ?_ ?_ facts.length ⟨0, ⟨(by simp only [go_sem, eRun_exit, Nat.reduceAdd, Nat.reduceLT, Nat.reduceEqDiff, reduceIte, reduceCtorEq, Int.reduceBEq, Int.reduceBNe, Int.reduceLT, Int.reduceLE, Int.reduceGT, Int.reduceGE, Int.reduceEq, Int.reduceAdd, Int.reduceSub, Int.reduceMul, Nat.reduceMul, Nat.reduceSub, Nat.reduceLeDiff, f1] <;> rfl), (by simp only [go_sem, eRun_exit, Nat.reduceAdd, Nat.reduceLT, Nat.reduceEqDiff, reduceIte, reduceCtorEq, Int.reduceBEq, Int.reduceBNe, Int.reduceLT, Int.reduceLE, Int.reduceGT, Int.reduceGE, Int.reduceEq, Int.reduceAdd, Int.reduceSub, Int.reduceMul, Nat.reduceMul, Nat.reduceSub, Nat.reduceLeDiff, f6] <;> rfl), (by simp only [go_sem, eRun_exit, Nat.reduceAdd, Nat.reduceLT, Nat.reduceEqDiff, reduceIte, reduceCtorEq, Int.reduceBEq, Int.reduceBNe, Int.reduceLT, Int.reduceLE, Int.reduceGT, Int.reduceGE, Int.reduceEq, Int.reduceAdd, Int.reduceSub, Int.reduceMul, Nat.reduceMul, Nat.reduceSub, Nat.reduceLeDiff, f7] <;> rfl), (by simp only [go_sem, eRun_exit, Nat.reduceAdd, Nat.reduceLT, Nat.reduceEqDiff, reduceIte, reduceCtorEq, Int.reduceBEq, Int.reduceBNe, Int.reduceLT, Int.reduceLE, Int.reduceGT, Int.reduceGE, Int.reduceEq, Int.reduceAdd, Int.reduceSub, Int.reduceMul, Nat.reduceMul, Nat.reduceSub, Nat.reduceLeDiff, f8] <;> rfl)⟩, (by simp only [go_sem, eRun_exit, Nat.reduceAdd, Nat.reduceLT, Nat.reduceEqDiff, reduceIte, reduceCtorEq, Int.reduceBEq, Int.reduceBNe, Int.reduceLT, Int.reduceLE, Int.reduceGT, Int.reduceGE, Int.reduceEq, Int.reduceAdd, Int.reduceSub, Int.reduceMul, Nat.reduceMul, Nat.reduceSub, Nat.reduceLeDiff] <;> rfl), (by simp only [go_sem, eRun_exit, Nat.reduceAdd, Nat.reduceLT, Nat.reduceEqDiff, reduceIte, reduceCtorEq, Int.reduceBEq, Int.reduceBNe, Int.reduceLT, Int.reduceLE, Int.reduceGT, Int.reduceGE, Int.reduceEq, Int.reduceAdd, Int.reduceSub, Int.reduceMul, Nat.reduceMul, Nat.reduceSub, Nat.reduceLeDiff] <;> rfl), (by simp only [go_sem, eRun_exit, Nat.reduceAdd, Nat.reduceLT, Nat.reduceEqDiff, reduceIte, reduceCtorEq, Int.reduceBEq, Int.reduceBNe, Int.reduceLT, Int.reduceLE, Int.reduceGT, Int.reduceGE, Int.reduceEq, Int.reduceAdd, Int.reduceSub, Int.reduceMul, Nat.reduceMul, Nat.reduceSub, Nat.reduceLeDiff] <;> rfl), by omega, rfl, hA⟩
    · rintro q f w ⟨i, ⟨f1, f6, f7, f8⟩, f56, f57, f58, hi, rfl, hA⟩ ih exit
      by_cases hlt : i < facts.length
      case neg =>
        rw [List.take_of_length_le (by omega), ← sees_app] at hA
        refine WS_runB 1000 (by simp only [go_sem, Nat.reduceAdd, Nat.reduceLT, Nat.reduceEqDiff, reduceIte, reduceCtorEq, Int.reduceBEq, Int.reduceBNe, Int.reduceLT, Int.reduceLE, Int.reduceGT, Int.reduceGE, Int.reduceEq, Int.reduceAdd, Int.reduceSub, Int.reduceMul, Nat.reduceMul, Nat.reduceSub, Nat.reduceLeDiff, k_check_Arities_p9, f57, f58, hlt]; rfl) ?_
        exact exit _ _ _ ⟨⟨(by simp only [go_sem, eRun_exit, Nat.reduceAdd, Nat.reduceLT, Nat.reduceEqDiff, reduceIte, reduceCtorEq, Int.reduceBEq, Int.reduceBNe, Int.reduceLT, Int.reduceLE, Int.reduceGT, Int.reduceGE, Int.reduceEq, Int.reduceAdd, Int.reduceSub, Int.reduceMul, Nat.reduceMul, Nat.reduceSub, Nat.reduceLeDiff, f1] <;> rfl), (by simp only [go_sem, eRun_exit, Nat.reduceAdd, Nat.reduceLT, Nat.reduceEqDiff, reduceIte, reduceCtorEq, Int.reduceBEq, Int.reduceBNe, Int.reduceLT, Int.reduceLE, Int.reduceGT, Int.reduceGE, Int.reduceEq, Int.reduceAdd, Int.reduceSub, Int.reduceMul, Nat.reduceMul, Nat.reduceSub, Nat.reduceLeDiff, f6] <;> rfl), (by simp only [go_sem, eRun_exit, Nat.reduceAdd, Nat.reduceLT, Nat.reduceEqDiff, reduceIte, reduceCtorEq, Int.reduceBEq, Int.reduceBNe, Int.reduceLT, Int.reduceLE, Int.reduceGT, Int.reduceGE, Int.reduceEq, Int.reduceAdd, Int.reduceSub, Int.reduceMul, Nat.reduceMul, Nat.reduceSub, Nat.reduceLeDiff, f7] <;> rfl), (by simp only [go_sem, eRun_exit, Nat.reduceAdd, Nat.reduceLT, Nat.reduceEqDiff, reduceIte, reduceCtorEq, Int.reduceBEq, Int.reduceBNe, Int.reduceLT, Int.reduceLE, Int.reduceGT, Int.reduceGE, Int.reduceEq, Int.reduceAdd, Int.reduceSub, Int.reduceMul, Nat.reduceMul, Nat.reduceSub, Nat.reduceLeDiff, f8] <;> rfl)⟩, hA⟩ rfl
      obtain ⟨r, hrr⟩ : ∃ t, facts[i]? = some t := ⟨_, List.getElem?_eq_getElem hlt⟩
      have hwr : IntKind.wrap .i64 (Int.ofNat i + 1) = Int.ofNat (i + 1) := wrap_succ (by have := hbd.m; omega)
      obtain ⟨xss, y1, y2⟩ := hf
      have h3 : RdL (fun _ => FaC T2 aw) T2 w fv 2 facts := ⟨xss, y1.frm hA.frm fun _ _ h => h, y2⟩
      rcases h3.inv (fun a xs hx => (FaC.one hx).1) with ⟨_, q2⟩ | ⟨b, o, c, rfl, _, _, _, hat⟩
      · rw [q2] at hlt; simp at hlt
      obtain ⟨xs, hx, hp⟩ := hat i r hrr
      have hone := hx.one
      obtain ⟨v, rfl, _, hv⟩ := hx
      have a2 : w.load b (o + i * 2) 2 = some [.str r.name, v] := hp 0 2 (by omega)
      obtain ⟨w5, s5, c5, r5, n5⟩ := boxed w (zs := [V.str [], V.nilslice]) (vs := [V.str r.name, v]) rfl hone.2
      have k1 : w5.load w.next 0 1 = some [.str r.name] := by rw [c5.load]; rfl
      have k2 : w5.load w.next 1 1 = some [v] := by rw [c5.load]; rfl
      have hvl := hv.lenV
      refine WS_run 1000 (by simp only [go_sem, eRun_exit, Nat.reduceAdd, Nat.reduceLT, Nat.reduceEqDiff, reduceIte, reduceCtorEq, Int.reduceBEq, Int.reduceBNe, Int.reduceLT, Int.reduceLE, Int.reduceGT, Int.reduceGE, Int.reduceEq, Int.reduceAdd, Int.reduceSub, Int.reduceMul, Nat.reduceMul, Nat.reduceSub, Nat.reduceLeDiff, k_check_Arities_p9, k_check_Arities_p8, k_check_Arities_p7, f8, f56, f57, f58, hlt, a2, s5, k1, k2, hvl, List.length_cons, List.length_nil]; rfl) ?_
      refine WS_call (by simp only [go_sem, eRun_exit, Nat.reduceAdd, Nat.reduceLT, Nat.reduceEqDiff, reduceIte, reduceCtorEq, Int.reduceBEq, Int.reduceBNe, Int.reduceLT, Int.reduceLE, Int.reduceGT, Int.reduceGE, Int.reduceEq, Int.reduceAdd, Int.reduceSub, Int.reduceMul, Nat.reduceMul, Nat.reduceSub, Nat.reduceLeDiff]) (by simp only [go_sem, eRun_exit, Nat.reduceAdd, Nat.reduceLT, Nat.reduceEqDiff, reduceIte, reduceCtorEq, Int.reduceBEq, Int.reduceBNe, Int.reduceLT, Int.reduceLE, Int.reduceGT, Int.reduceGE, Int.reduceEq, Int.reduceAdd, Int.reduceSub, Int.reduceMul, Nat.reduceMul, Nat.reduceSub, Nat.reduceLeDiff]; rfl) ?_
      refine see_ok C (aw9_ext hA r5) fun w6 v1 v2 v3 => ?_
      have e : sees (sees st0 (rules.flatMap ruleP)) ((facts.take (i + 1)).flatMap factP) = pSee (sees (sees st0 (rules.flatMap ruleP)) ((facts.take i).flatMap factP)) (r.name, (r.args.length : Int)) := by
        rw [take_snoc_of hrr, List.flatMap_append, sees_app]; rfl
      refine WS_run 1000 (by simp only [go_sem, eRun_exit, Nat.reduceAdd, Nat.reduceLT, Nat.reduceEqDiff, reduceIte, reduceCtorEq, Int.reduceBEq, Int.reduceBNe, Int.reduceLT, Int.reduceLE, Int.reduceGT, Int.reduceGE, Int.reduceEq, Int.reduceAdd, Int.reduceSub, Int.reduceMul, Nat.reduceMul, Nat.reduceSub, Nat.reduceLeDiff, f58, hwr]; rfl) ?_
      exact ih _ _ _ (by omega) ⟨i + 1, ⟨(by simp only [go_sem, eRun_exit, Nat.reduceAdd, Nat.reduceLT, Nat.reduceEqDiff, reduceIte, reduceCtorEq, Int.reduceBEq, Int.reduceBNe, Int.reduceLT, Int.reduceLE, Int.reduceGT, Int.reduceGE, Int.reduceEq, Int.reduceAdd, Int.reduceSub, Int.reduceMul, Nat.reduceMul, Nat.reduceSub, Nat.reduceLeDiff, f1] <;> rfl), (by simp only [go_sem, eRun_exit, Nat.reduceAdd, Nat.reduceLT, Nat.reduceEqDiff, reduceIte, reduceCtorEq, Int.reduceBEq, Int.reduceBNe, Int.reduceLT, Int.reduceLE, Int.reduceGT, Int.reduceGE, Int.reduceEq, Int.reduceAdd, Int.reduceSub, Int.reduceMul, Nat.reduceMul, Nat.reduceSub, Nat.reduceLeDiff, f6] <;> rfl), (by simp only [go_sem, eRun_exit, Nat.reduceAdd, Nat.reduceLT, Nat.reduceEqDiff, reduceIte, reduceCtorEq, Int.reduceBEq, Int.reduceBNe, Int.reduceLT, Int.reduceLE, Int.reduceGT, Int.reduceGE, Int.reduceEq, Int.reduceAdd, Int.reduceSub, Int.reduceMul, Nat.reduceMul, Nat.reduceSub, Nat.reduceLeDiff, f7] <;> rfl), (by simp only [go_sem, eRun_exit, Nat.reduceAdd, Nat.reduceLT, Nat.reduceEqDiff, reduceIte, reduceCtorEq, Int.reduceBEq, Int.reduceBNe, Int.reduceLT, Int.reduceLE, Int.reduceGT, Int.reduceGE, Int.reduceEq, Int.reduceAdd, Int.reduceSub, Int.reduceMul, Nat.reduceMul, Nat.reduceSub, Nat.reduceLeDiff, f8] <;> rfl)⟩, (by simp only [go_sem, eRun_exit, Nat.reduceAdd, Nat.reduceLT, Nat.reduceEqDiff, reduceIte, reduceCtorEq, Int.reduceBEq, Int.reduceBNe, Int.reduceLT, Int.reduceLE, Int.reduceGT, Int.reduceGE, Int.reduceEq, Int.reduceAdd, Int.reduceSub, Int.reduceMul, Nat.reduceMul, Nat.reduceSub, Nat.reduceLeDiff, f56] <;> rfl), (by simp only [go_sem, eRun_exit, Nat.reduceAdd, Nat.reduceLT, Nat.reduceEqDiff, reduceIte, reduceCtorEq, Int.reduceBEq, Int.reduceBNe, Int.reduceLT, Int.reduceLE, Int.reduceGT, Int.reduceGE, Int.reduceEq, Int.reduceAdd, Int.reduceSub, Int.reduceMul, Nat.reduceMul, Nat.reduceSub, Nat.reduceLeDiff, f57] <;> rfl), (by simp only [go_sem, eRun_exit, Nat.reduceAdd, Nat.reduceLT, Nat.reduceEqDiff, reduceIte, reduceCtorEq, Int.reduceBEq, Int.reduceBNe, Int.reduceLT, Int.reduceLE, Int.reduceGT, Int.reduceGE, Int.reduceEq, Int.reduceAdd, Int.reduceSub, Int.reduceMul, Nat.reduceMul, Nat.reduceSub, Nat.reduceLeDiff] <;> rfl), by omega, rfl, by rw [e]; exact v1⟩
    · rintro f w ⟨⟨f1, f6, f7, f8⟩, hA⟩
      have l7 : w.load w2.next 0 1 = some [.bool (sees st0 (allP rules facts)).2] := hA.a7.load 0 1
      have l6 : w.load w1.next 0 1 = some [.map aw.next] := hA.a6.load 0 1
      cases hb : (sees st0 (allP rules facts)).2 with
      | true =>
        rw [hb] at l7
        refine WS_run 1000 (by simp only [go_sem, eRun_exit, Nat.reduceAdd, Nat.reduceLT, Nat.reduceEqDiff, reduceIte, reduceCtorEq, Int.reduceBEq, Int.reduceBNe, Int.reduceLT, Int.reduceLE, Int.reduceGT, Int.reduceGE, Int.reduceEq, Int.reduceAdd, Int.reduceSub, Int.reduceMul, Nat.reduceMul, Nat.reduceSub, Nat.reduceLeDiff, k_check_Arities_p11, f6, f7, l6, l7]; rfl) ?_
        refine WS_ret ⟨_, by simp only [go_sem, eRun_exit, Nat.reduceAdd, Nat.reduceLT, Nat.reduceEqDiff, reduceIte, reduceCtorEq, Int.reduceBEq, Int.reduceBNe, Int.reduceLT, Int.reduceLE, Int.reduceGT, Int.reduceGE, Int.reduceEq, Int.reduceAdd, Int.reduceSub, Int.reduceMul, Nat.reduceMul, Nat.reduceSub, Nat.reduceLeDiff, k_check_Arities]; rfl, ?_⟩
        exact h1 w aw.next hb hA.mp (Nat.le_refl _) hA.frm
      | false =>
        rw [hb] at l7
        refine WS_run 1000 (by simp only [go_sem, eRun_exit, Nat.reduceAdd, Nat.reduceLT, Nat.reduceEqDiff, reduceIte, reduceCtorEq, Int.reduceBEq, Int.reduceBNe, Int.reduceLT, Int.reduceLE, Int.reduceGT, Int.reduceGE, Int.reduceEq, Int.reduceAdd, Int.reduceSub, Int.reduceMul, Nat.reduceMul, Nat.reduceSub, Nat.reduceLeDiff, k_check_Arities_p11, k_check_Arities_p10, f6, f7, l6, l7]; rfl) ?_
        refine WS_ret ⟨_, by simp only [go_sem, eRun_exit, Nat.reduceAdd, Nat.reduceLT, Nat.reduceEqDiff, reduceIte, reduceCtorEq, Int.reduceBEq, Int.reduceBNe, Int.reduceLT, Int.reduceLE, Int.reduceGT, Int.reduceGE, Int.reduceEq, Int.reduceAdd, Int.reduceSub, Int.reduceMul, Nat.reduceMul, Nat.reduceSub, Nat.reduceLeDiff, k_check_Arities]; rfl, ?_⟩
        exact h2 w hb hA.frm
end Go.Proofs.Ytjidefnbancmfaa
