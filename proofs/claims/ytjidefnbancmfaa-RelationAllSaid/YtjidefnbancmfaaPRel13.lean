/- RelationAll: the switch: rows that come. -/
import Derived.Test.YtjidefnbancmfaaPRel12
set_option linter.unusedVariables false
set_option linter.unusedSimpArgs false
namespace Go.Proofs.Ytjidefnbancmfaa
open Go.AE
variable {tab : Tab}
/-- what the frame holds all along. -/
structure FrA (f : Fr) (bs width i : Nat) (opsV mv : V) : Prop where
  f0 : f.get 0 = some (.int .i64 (Int.ofNat width))
  f1 : f.get 1 = some opsV
  f6 : f.get 6 = some (.ptr bs 0)
  f7 : f.get 7 = some mv
  f8 : f.get 8 = some (.int .i64 (Int.ofNat i))
theorem row_set {l : List Int} {k : Nat} {x : Int} : (rowC l).set k (.int .i64 x) = rowC (l.set k x) := by
  simp only [rowC, List.map_set]
def IncI (bs width i : Nat) (opsV mv rv : V) (r : List Int) (M rows : List (List Int)) (ms : List V) (S S2 T2 U : Nat → Prop) (aw : AW) (q : Nat) (f : Fr) (w : AW) : Prop :=
  ∃ k r', FrA f bs width i opsV mv ∧ f.get 9 = some rv ∧ f.get 13 = some (.int .i64 (Int.ofNat k)) ∧ AllW aw w bs mv width M rows ms S S2 T2 ∧ RowV U w rv r' ∧ r'.length = r.length ∧ k ≤ r.length ∧ q = r.length - k
theorem all_incr (C : Codes tab) {bs width i : Nat} {opsV mv rv : V} {r : List Int} {M rows : List (List Int)} {ms : List V} {S S2 T2 U : Nat → Prop} {aw w : AW} {fr : Fr} {Q : Fr → AW → Prop} {s : List SI} (hrl : r.length ≤ 1000) (hU : ∀ x, U x → aw.next ≤ x ∧ ¬ S x ∧ ¬ S2 x ∧ ¬ T2 x)
    (h0 : IncI bs width i opsV mv rv r M rows ms S S2 T2 U aw r.length fr w) (h : ∀ f w, FrA f bs width i opsV mv → AllW aw w bs mv width M rows ms S S2 T2 → WS tab s f w Q) : WS tab (.code (.loop k10_4) :: .endB 5 :: s) fr w Q := by
  refine WS_loop (IncI bs width i opsV mv rv r M rows ms S S2 T2 U aw) ?_ r.length h0
  clear h0 fr w
  rintro q f w ⟨k, r', ⟨f0, f1, f6, f7, f8⟩, f9, f13, hA, hr, hl, hk, rfl⟩ ih
  rcases hr.inv with ⟨rfl, rfl⟩ | ⟨b, c, rfl, hUb, hbl, hx⟩
  · have : r.length = 0 := by simpa using hl.symm
    have hk0 : k = 0 := by omega
    subst hk0
    refine WS_runB 10 (by simp only [go_sem, Nat.reduceAdd, Nat.reduceLT, Nat.reduceEqDiff, reduceIte, reduceCtorEq, Int.reduceBEq, Int.reduceBNe, Int.reduceLT, Int.reduceLE, Int.reduceGT, Int.reduceGE, Int.reduceEq, Int.reduceAdd, Int.reduceSub, Int.reduceMul, Nat.reduceMul, Nat.reduceSub, Nat.reduceLeDiff, k10_4, f0, f1, f6, f7, f8, f9, f13]; rfl) ?_
    exact h _ _ ⟨(by simp only [go_sem, Nat.reduceAdd, Nat.reduceLT, Nat.reduceEqDiff, reduceIte, reduceCtorEq, Int.reduceBEq, Int.reduceBNe, Int.reduceLT, Int.reduceLE, Int.reduceGT, Int.reduceGE, Int.reduceEq, Int.reduceAdd, Int.reduceSub, Int.reduceMul, Nat.reduceMul, Nat.reduceSub, Nat.reduceLeDiff, f0] <;> rfl), (by simp only [go_sem, Nat.reduceAdd, Nat.reduceLT, Nat.reduceEqDiff, reduceIte, reduceCtorEq, Int.reduceBEq, Int.reduceBNe, Int.reduceLT, Int.reduceLE, Int.reduceGT, Int.reduceGE, Int.reduceEq, Int.reduceAdd, Int.reduceSub, Int.reduceMul, Nat.reduceMul, Nat.reduceSub, Nat.reduceLeDiff, f1] <;> rfl), (by simp only [go_sem, Nat.reduceAdd, Nat.reduceLT, Nat.reduceEqDiff, reduceIte, reduceCtorEq, Int.reduceBEq, Int.reduceBNe, Int.reduceLT, Int.reduceLE, Int.reduceGT, Int.reduceGE, Int.reduceEq, Int.reduceAdd, Int.reduceSub, Int.reduceMul, Nat.reduceMul, Nat.reduceSub, Nat.reduceLeDiff, f6] <;> rfl), (by simp only [go_sem, Nat.reduceAdd, Nat.reduceLT, Nat.reduceEqDiff, reduceIte, reduceCtorEq, Int.reduceBEq, Int.reduceBNe, Int.reduceLT, Int.reduceLE, Int.reduceGT, Int.reduceGE, Int.reduceEq, Int.reduceAdd, Int.reduceSub, Int.reduceMul, Nat.reduceMul, Nat.reduceSub, Nat.reduceLeDiff, f7] <;> rfl), (by simp only [go_sem, Nat.reduceAdd, Nat.reduceLT, Nat.reduceEqDiff, reduceIte, reduceCtorEq, Int.reduceBEq, Int.reduceBNe, Int.reduceLT, Int.reduceLE, Int.reduceGT, Int.reduceGE, Int.reduceEq, Int.reduceAdd, Int.reduceSub, Int.reduceMul, Nat.reduceMul, Nat.reduceSub, Nat.reduceLeDiff, f8] <;> rfl)⟩ hA
  by_cases hlt : k < r'.length
  · have g1 : r'[k]? = some r'[k] := List.getElem?_eq_getElem hlt
    have l1 := row_load hx g1
    have ez : 0 + k * 1 = k := by omega
    rw [ez] at l1
    have hst := store_cell (i := k) (v := .int .i64 (IntKind.wrap .i64 (r'[k] + 1))) hx (by simpa [rowC] using hlt) rfl
    rw [row_set] at hst
    have hwr : IntKind.wrap .i64 (Int.ofNat k + 1) = Int.ofNat (k + 1) := wrap_succ (by omega)
    refine WS_run 1000 (by simp only [go_sem, Nat.reduceAdd, Nat.reduceLT, Nat.reduceEqDiff, reduceIte, reduceCtorEq, Int.reduceBEq, Int.reduceBNe, Int.reduceLT, Int.reduceLE, Int.reduceGT, Int.reduceGE, Int.reduceEq, Int.reduceAdd, Int.reduceSub, Int.reduceMul, Nat.reduceMul, Nat.reduceSub, Nat.reduceLeDiff, k10_4, k10_3, f0, f1, f6, f7, f8, f9, f13, hlt, ez, l1, hst, hwr, List.length_cons, List.length_nil]; rfl) ?_
    have hturn : Frm (fun x => x = b) w (w.turn b (.cells (rowC (r'.set k (IntKind.wrap .i64 (r'[k] + 1)))) .own)) := turn_frm rfl (.inl rfl)
    refine ih (r.length - (k + 1)) _ _ (by omega) ⟨k + 1, r'.set k (IntKind.wrap .i64 (r'[k] + 1)), ⟨(by simp only [go_sem, Nat.reduceAdd, Nat.reduceLT, Nat.reduceEqDiff, reduceIte, reduceCtorEq, Int.reduceBEq, Int.reduceBNe, Int.reduceLT, Int.reduceLE, Int.reduceGT, Int.reduceGE, Int.reduceEq, Int.reduceAdd, Int.reduceSub, Int.reduceMul, Nat.reduceMul, Nat.reduceSub, Nat.reduceLeDiff, f0] <;> rfl), (by simp only [go_sem, Nat.reduceAdd, Nat.reduceLT, Nat.reduceEqDiff, reduceIte, reduceCtorEq, Int.reduceBEq, Int.reduceBNe, Int.reduceLT, Int.reduceLE, Int.reduceGT, Int.reduceGE, Int.reduceEq, Int.reduceAdd, Int.reduceSub, Int.reduceMul, Nat.reduceMul, Nat.reduceSub, Nat.reduceLeDiff, f1] <;> rfl), (by simp only [go_sem, Nat.reduceAdd, Nat.reduceLT, Nat.reduceEqDiff, reduceIte, reduceCtorEq, Int.reduceBEq, Int.reduceBNe, Int.reduceLT, Int.reduceLE, Int.reduceGT, Int.reduceGE, Int.reduceEq, Int.reduceAdd, Int.reduceSub, Int.reduceMul, Nat.reduceMul, Nat.reduceSub, Nat.reduceLeDiff, f6] <;> rfl), (by simp only [go_sem, Nat.reduceAdd, Nat.reduceLT, Nat.reduceEqDiff, reduceIte, reduceCtorEq, Int.reduceBEq, Int.reduceBNe, Int.reduceLT, Int.reduceLE, Int.reduceGT, Int.reduceGE, Int.reduceEq, Int.reduceAdd, Int.reduceSub, Int.reduceMul, Nat.reduceMul, Nat.reduceSub, Nat.reduceLeDiff, f7] <;> rfl), (by simp only [go_sem, Nat.reduceAdd, Nat.reduceLT, Nat.reduceEqDiff, reduceIte, reduceCtorEq, Int.reduceBEq, Int.reduceBNe, Int.reduceLT, Int.reduceLE, Int.reduceGT, Int.reduceGE, Int.reduceEq, Int.reduceAdd, Int.reduceSub, Int.reduceMul, Nat.reduceMul, Nat.reduceSub, Nat.reduceLeDiff, f8] <;> rfl)⟩, (by simp only [go_sem, Nat.reduceAdd, Nat.reduceLT, Nat.reduceEqDiff, reduceIte, reduceCtorEq, Int.reduceBEq, Int.reduceBNe, Int.reduceLT, Int.reduceLE, Int.reduceGT, Int.reduceGE, Int.reduceEq, Int.reduceAdd, Int.reduceSub, Int.reduceMul, Nat.reduceMul, Nat.reduceSub, Nat.reduceLeDiff, f9] <;> rfl), (by simp only [go_sem, Nat.reduceAdd, Nat.reduceLT, Nat.reduceEqDiff, reduceIte, reduceCtorEq, Int.reduceBEq, Int.reduceBNe, Int.reduceLT, Int.reduceLE, Int.reduceGT, Int.reduceGE, Int.reduceEq, Int.reduceAdd, Int.reduceSub, Int.reduceMul, Nat.reduceMul, Nat.reduceSub, Nat.reduceLeDiff] <;> rfl), hA.frm hturn (fun x e => by subst e; exact hU _ hUb), .blk hUb hbl AE.T.get_put_same (by simp), by simp [hl], by omega, rfl⟩
  · refine WS_runB 10 (by simp only [go_sem, Nat.reduceAdd, Nat.reduceLT, Nat.reduceEqDiff, reduceIte, reduceCtorEq, Int.reduceBEq, Int.reduceBNe, Int.reduceLT, Int.reduceLE, Int.reduceGT, Int.reduceGE, Int.reduceEq, Int.reduceAdd, Int.reduceSub, Int.reduceMul, Nat.reduceMul, Nat.reduceSub, Nat.reduceLeDiff, k10_4, f0, f1, f6, f7, f8, f9, f13, hlt]; rfl) ?_
    exact h _ _ ⟨(by simp only [go_sem, Nat.reduceAdd, Nat.reduceLT, Nat.reduceEqDiff, reduceIte, reduceCtorEq, Int.reduceBEq, Int.reduceBNe, Int.reduceLT, Int.reduceLE, Int.reduceGT, Int.reduceGE, Int.reduceEq, Int.reduceAdd, Int.reduceSub, Int.reduceMul, Nat.reduceMul, Nat.reduceSub, Nat.reduceLeDiff, f0] <;> rfl), (by simp only [go_sem, Nat.reduceAdd, Nat.reduceLT, Nat.reduceEqDiff, reduceIte, reduceCtorEq, Int.reduceBEq, Int.reduceBNe, Int.reduceLT, Int.reduceLE, Int.reduceGT, Int.reduceGE, Int.reduceEq, Int.reduceAdd, Int.reduceSub, Int.reduceMul, Nat.reduceMul, Nat.reduceSub, Nat.reduceLeDiff, f1] <;> rfl), (by simp only [go_sem, Nat.reduceAdd, Nat.reduceLT, Nat.reduceEqDiff, reduceIte, reduceCtorEq, Int.reduceBEq, Int.reduceBNe, Int.reduceLT, Int.reduceLE, Int.reduceGT, Int.reduceGE, Int.reduceEq, Int.reduceAdd, Int.reduceSub, Int.reduceMul, Nat.reduceMul, Nat.reduceSub, Nat.reduceLeDiff, f6] <;> rfl), (by simp only [go_sem, Nat.reduceAdd, Nat.reduceLT, Nat.reduceEqDiff, reduceIte, reduceCtorEq, Int.reduceBEq, Int.reduceBNe, Int.reduceLT, Int.reduceLE, Int.reduceGT, Int.reduceGE, Int.reduceEq, Int.reduceAdd, Int.reduceSub, Int.reduceMul, Nat.reduceMul, Nat.reduceSub, Nat.reduceLeDiff, f7] <;> rfl), (by simp only [go_sem, Nat.reduceAdd, Nat.reduceLT, Nat.reduceEqDiff, reduceIte, reduceCtorEq, Int.reduceBEq, Int.reduceBNe, Int.reduceLT, Int.reduceLE, Int.reduceGT, Int.reduceGE, Int.reduceEq, Int.reduceAdd, Int.reduceSub, Int.reduceMul, Nat.reduceMul, Nat.reduceSub, Nat.reduceLeDiff, f8] <;> rfl)⟩ hA
/-- one more row. -/
theorem AllW.add {aw w w2 w3 : AW} {bs : Nat} {mv mv' : V} {width : Nat} {M rows : List (List Int)} {ms : List V} {S S' S2 S2' T2 T3 : Nat → Prop} {r : List Int} {v : V} (h : AllW aw w bs mv width M rows ms S S2 T2) (hw : r.length = width) (hm : r ∉ M)
    (hs : SetOf S' w2 (.ptr bs 0) width (insR rows r)) (hf : Frm S w w2) (hg : Grown S S' w w2)
    {w2' : AW} (hc : Frm (fun _ => False) w2 w2') (hv : RowV T3 w2' v r) (hT3 : ∀ x, T3 x → w2.next ≤ x ∧ x < w2'.next)
    (hb : Buf S2' w3 mv' 1 (M.length + 1) (ms ++ [v])) (hf3 : Frm S2 w2' w3) (hg3 : Grown S2 S2' w2' w3) : AllW aw w3 bs mv' width (M ++ [r]) (insR rows r) (ms ++ [v]) S' S2' (fun x => T2 x ∨ T3 x) := by
  have n1 := hf.next
  have n2 := hc.next
  have n3 := hf3.next
  have hle := h.ext.le'
  have S2old : ∀ x, S2 x → x < w.next := fun x hx => (h.d2 x hx).2.1
  have dS : ∀ x, S' x → aw.next ≤ x ∧ x < w2.next ∧ ¬ S2 x ∧ ¬ T2 x := by
    intro x hx
    obtain ⟨m1, m2⟩ := hg x hx
    rcases m2 with m2 | m2
    · exact ⟨(h.d1 x m2).1, m1, fun h2 => (h.d2 x h2).2.2.1 m2, fun h2 => (h.d3 x h2).2.2 m2⟩
    · exact ⟨by omega, m1, fun h2 => by have := S2old x h2; omega, fun h2 => by have := (h.d3 x h2).2.1; omega⟩
  refine ⟨?_, ?_, ?_, ?_, ?_, ?_, ?_, ?_, ?_, ?_, h.w4⟩
  · exact (hs.frm hc fun _ _ h => h).frm hf3 fun x hx h2 => (dS x hx).2.2.1 h2
  · rw [List.length_append]; exact hb
  · have a1 : RowsV T2 w3 ms M := ((h.mr.frm hf fun x hx hs => (h.d3 x hx).2.2 hs).frm hc fun _ _ h => h).frm hf3 fun x hx h2 => (h.d2 x h2).2.2.2 hx
    have a2 : RowV T3 w3 v r := hv.frm hf3 fun x hx h2 => by have := hT3 x hx; have := S2old x h2; omega
    have hl1 := h.mr.1
    refine ⟨by simp [hl1], fun k y l hy hl => ?_⟩
    by_cases hk : k < ms.length
    · rw [List.getElem?_append_left hk] at hy
      rw [List.getElem?_append_left (by omega)] at hl
      exact (a1.2 k y l hy hl).mono fun _ h => .inl h
    · rw [List.getElem?_append_right (by omega)] at hy hl
      rw [← hl1] at hl
      cases hkk : k - ms.length with
      | zero => rw [hkk] at hy hl; simp at hy hl; rw [← hy, ← hl]; exact a2.mono fun _ h => .inr h
      | succ m => rw [hkk] at hy; simp at hy
  · rw [List.nodup_append]
    exact ⟨h.nod, by simp, fun a ha b hb => by simp at hb; subst hb; exact fun e => hm (e ▸ ha)⟩
  · intro x hx
    rcases List.mem_append.1 hx with hx | hx
    · exact h.wid x hx
    · simp at hx; subst hx; exact hw
  · intro y
    rw [mem_ins, h.same, List.mem_append, List.mem_singleton]
    exact Or.comm
  · intro x hx; have := dS x hx; exact ⟨this.1, by omega⟩
  · intro x hx
    obtain ⟨m1, m2⟩ := hg3 x hx
    rcases m2 with m2 | m2
    · refine ⟨(h.d2 x m2).1, m1, fun h' => (dS x h').2.2.1 m2, fun h' => ?_⟩
      rcases h' with h' | h'
      · exact (h.d2 x m2).2.2.2 h'
      · have := hT3 x h'; have := S2old x m2; omega
    · refine ⟨by omega, m1, fun h' => by have := (dS x h').2.1; omega, fun h' => ?_⟩
      rcases h' with h' | h'
      · have := (h.d3 x h').2.1; omega
      · have := hT3 x h'; omega
  · rintro x (hx | hx)
    · exact ⟨(h.d3 x hx).1, by have := (h.d3 x hx).2.1; omega, fun h' => (dS x h').2.2.2 hx⟩
    · have := hT3 x hx
      exact ⟨by omega, by omega, fun h' => by have := (dS x h').2.1; omega⟩
  · exact ((h.ext.trans (hf.ext hle fun x hx => (h.d1 x hx).1)).trans (hc.ext (by omega) fun _ h => h.elim)).trans (hf3.ext (by omega) fun x hx => (h.d2 x hx).1)
end Go.Proofs.Ytjidefnbancmfaa
