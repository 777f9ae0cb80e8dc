/- RelationMany: found by the second number, and taken out. -/
import Derived.Test.YtjidefnbancmfaaPRel7
set_option linter.unusedVariables false
set_option linter.unusedSimpArgs false
namespace Go.Proofs.Ytjidefnbancmfaa
open Go.AE
variable {tab : Tab}
def sec (x : List Int) : Int := x.getD 1 0
theorem two_inv {x : List Int} (h : x.length = 2) : ∃ a, x = [a, sec x] := by
  match x, h with
  | [a, b], _ => exact ⟨a, rfl⟩
theorem fits_sec {x : List Int} {d : Int} (h : x.length = 2) (hd : 0 < d) : fitsR x [0, d] = true ↔ sec x = d := by
  obtain ⟨a, e⟩ := two_inv h
  rw [e]
  simp [fitsR, hd, sec]
theorem rise_nodup {rows : List (List Int)} (h : Rise rows) : rows.Nodup := h.imp fun hab e => by subst e; exact cmpL_self hab
theorem nodup_inj {α : Type} {l : List α} (h : l.Nodup) {i j : Nat} (hi : i < l.length) (hj : j < l.length) (e : l[i] = l[j]) : i = j := by
  have hp := List.pairwise_iff_getElem.1 h
  rcases Nat.lt_trichotomy i j with h1 | h1 | h1
  · exact absurd e (hp i j hi hj h1)
  · exact h1
  · exact absurd e.symm (hp j i hj hi h1)
theorem mem_erase {rows : List (List Int)} (h : Rise rows) {r y : List Int} (hm : r ∈ rows) : y ∈ rows.eraseIdx (posn rows r) ↔ y ∈ rows ∧ y ≠ r := by
  have hg := posn_mem h hm
  have hlt := (List.getElem?_eq_some_iff.1 hg).1
  rw [List.mem_eraseIdx_iff_getElem?]
  constructor
  · rintro ⟨i, hi, e⟩
    refine ⟨List.mem_of_getElem? e, fun hy => ?_⟩
    subst hy
    have hil := (List.getElem?_eq_some_iff.1 e).1
    have e1 : rows[i] = rows[posn rows y] := by
      rw [List.getElem?_eq_getElem hil] at e
      rw [List.getElem?_eq_getElem hlt] at hg
      rw [Option.some.inj e, Option.some.inj hg]
    exact hi (nodup_inj (rise_nodup h) hil hlt e1)
  · rintro ⟨hy, hne⟩
    obtain ⟨i, hi, e⟩ := List.mem_iff_getElem.1 hy
    refine ⟨i, fun h => hne ?_, by rw [List.getElem?_eq_getElem hi, e]⟩
    subst h
    rw [List.getElem?_eq_getElem hi, e] at hg
    exact Option.some.inj hg
structure DelW (rows crows xs : List (List Int)) (d : Nat) (i : Nat) : Prop where
  mem : ∀ y, y ∈ crows ↔ y ∈ rows ∧ (Int.ofNat d < sec y ∨ (sec y = Int.ofNat d ∧ y ∉ xs.take i))
def InnI (bq bs d m c0 : Nat) (v : V) (rows xs : List (List Int)) (cs : List V) (S Sc S1 T1 : Nat → Prop) (aw w0 : AW) (q : Nat) (f : Fr) (w : AW) : Prop :=
  ∃ i crows, f.get 6 = some (.ptr bs 0) ∧ f.get 8 = some (.int .i64 (Int.ofNat m)) ∧ f.get 13 = some (.ptr bq 0) ∧ f.get 14 = some (.int .i64 (Int.ofNat (c0 + xs.length))) ∧ f.get 15 = some (.int .i64 (Int.ofNat d)) ∧ f.get 16 = some v ∧ f.get 17 = some (.int .i64 (Int.ofNat i)) ∧
    SetOf Sc w (.ptr bq 0) 2 crows ∧ Frm Sc w0 w ∧ Ext aw.next aw w ∧ DelW rows crows xs d i ∧ crows.length + c0 + i = rows.length ∧ i ≤ xs.length ∧ q = xs.length - i
theorem many_inner (C : Codes tab) {bq bs d m c0 : Nat} {v : V} {rows xs : List (List Int)} {cs : List V} {S Sc S1 T1 : Nat → Prop} {aw w0 w : AW} {fr : Fr} {Q : Fr → AW → Prop} {s : List SI} (hd : 0 < d) (hn : rows.length ≤ 300) (hx : xs = rows.filter fun x => fitsR x [0, Int.ofNat d]) (hr : Rise rows) (hw : ∀ x ∈ rows, x.length = 2)
    (hl : ListOf aw.next w0 v xs cs S1 T1) (hdis : ∀ x, S1 x ∨ T1 x → ¬ Sc x) (hSc : ∀ x, Sc x → aw.next ≤ x) (h0 : InnI bq bs d m c0 v rows xs cs S Sc S1 T1 aw w0 xs.length fr w)
    (h : ∀ f w, InnI bq bs d m c0 v rows xs cs S Sc S1 T1 aw w0 0 f w → WS tab s f w Q) : WS tab (.code (.loop k12_6) :: .endB 6 :: s) fr w Q := by
  refine WS_loop (InnI bq bs d m c0 v rows xs cs S Sc S1 T1 aw w0) ?_ xs.length h0
  clear h0 fr w
  rintro q f w ⟨i, crows, f6, f8, f13, f14, f15, f16, f17, hset, hfr, hext, hD, hcnt, hi, rfl⟩ ih
  have hxl : xs.length ≤ rows.length := by rw [hx]; exact List.length_filter_le _ _
  have hb := hl.1.frm hfr fun x hx => hdis x (.inl hx)
  have hv := hl.2.1.frm hfr fun x hx => hdis x (.inr hx)
  by_cases hlt : i < xs.length
  · rcases hb.inv with ⟨_, h0, _⟩ | ⟨b, rfl, _, _⟩
    · omega
    have g1 : xs[i]? = some xs[i] := List.getElem?_eq_getElem hlt
    have hm1 : xs[i] ∈ xs := List.mem_of_getElem? g1
    have hall : ∀ x ∈ xs, x ∈ rows ∧ fitsR x [0, Int.ofNat d] = true := by
      intro x hx'
      rw [hx, List.mem_filter] at hx'
      exact hx'
    have hm2 := hall _ hm1
    have hw2 := hw _ hm2.1
    have hsec : sec xs[i] = Int.ofNat d := (fits_sec hw2 (by show (0 : Int) < (d : Int); omega)).1 hm2.2
    obtain ⟨a, ea⟩ := two_inv hw2
    rw [hsec] at ea
    obtain ⟨rv, g2, g3⟩ := hv.at g1
    have ld := hb.load1 g2
    rcases g3.inv with ⟨_, hnil⟩ | ⟨b1, c1, rfl, _, _, hx1⟩
    · rw [hnil] at hw2; simp at hw2
    rw [hw2] at ld
    have ld1 : w.load b1 1 1 = some [.int .i64 (Int.ofNat d)] := by
      have := row_load hx1 (i := 1) (x := Int.ofNat d) (by rw [ea]; rfl)
      simpa using this
    have hin : xs[i] ∈ crows := by
      rw [hD.mem]
      refine ⟨hm2.1, .inr ⟨hsec, fun h => ?_⟩⟩
      have hnd : xs.Nodup := by rw [hx]; exact (rise_nodup hr).filter _
      obtain ⟨j, hj, e⟩ := List.mem_iff_getElem.1 h
      rw [List.length_take] at hj
      rw [List.getElem_take] at e
      have := nodup_inj hnd _ _ e
      omega
    have hwr : IntKind.wrap .i64 (Int.ofNat i + 1) = Int.ofNat (i + 1) := wrap_succ (by omega)
    refine WS_run 1000 (by simp only [go_sem, Nat.reduceAdd, Nat.reduceLT, Nat.reduceEqDiff, reduceIte, reduceCtorEq, Int.reduceBEq, Int.reduceBNe, Int.reduceLT, Int.reduceLE, Int.reduceGT, Int.reduceGE, Int.reduceEq, Int.reduceAdd, Int.reduceSub, Int.reduceMul, Nat.reduceMul, Nat.reduceSub, Nat.reduceLeDiff, k12_6, k12_5, f6, f8, f13, f14, f15, f16, f17, hlt, ld, ld1]; rfl) ?_
    refine WS_call (by simp only [go_sem, Nat.reduceAdd, Nat.reduceLT, Nat.reduceEqDiff, reduceIte, reduceCtorEq, Int.reduceBEq, Int.reduceBNe, Int.reduceLT, Int.reduceLE, Int.reduceGT, Int.reduceGE, Int.reduceEq, Int.reduceAdd, Int.reduceSub, Int.reduceMul, Nat.reduceMul, Nat.reduceSub, Nat.reduceLeDiff]) (by simp only [go_sem, Nat.reduceAdd, Nat.reduceLT, Nat.reduceEqDiff, reduceIte, reduceCtorEq, Int.reduceBEq, Int.reduceBNe, Int.reduceLT, Int.reduceLE, Int.reduceGT, Int.reduceGE, Int.reduceEq, Int.reduceAdd, Int.reduceSub, Int.reduceMul, Nat.reduceMul, Nat.reduceSub, Nat.reduceLeDiff]; rfl) ?_
    have g3' : RowV T1 w (.slice b1 0 2 c1) xs[i] := by rw [hw2] at g3; exact g3
    refine remove_ok C hset g3' (by omega) (by omega) (fun h => absurd hin h) fun _ w2 q1 q2 q3 => ?_
    obtain ⟨bp, lv, cs0, S0, T0, he, hsv⟩ := id hset
    have hrise := hsv.rise
    refine WS_run 1000 (by simp only [go_sem, Nat.reduceAdd, Nat.reduceLT, Nat.reduceEqDiff, reduceIte, reduceCtorEq, Int.reduceBEq, Int.reduceBNe, Int.reduceLT, Int.reduceLE, Int.reduceGT, Int.reduceGE, Int.reduceEq, Int.reduceAdd, Int.reduceSub, Int.reduceMul, Nat.reduceMul, Nat.reduceSub, Nat.reduceLeDiff, f6, f8, f13, f14, f15, f16, f17, hwr]; rfl) ?_
    have hpl : posn crows xs[i] < crows.length := (List.getElem?_eq_some_iff.1 (posn_mem hrise hin)).1
    refine ih (xs.length - (i + 1)) _ _ (by omega) ⟨i + 1, _, (by simp only [go_sem, Nat.reduceAdd, Nat.reduceLT, Nat.reduceEqDiff, reduceIte, reduceCtorEq, Int.reduceBEq, Int.reduceBNe, Int.reduceLT, Int.reduceLE, Int.reduceGT, Int.reduceGE, Int.reduceEq, Int.reduceAdd, Int.reduceSub, Int.reduceMul, Nat.reduceMul, Nat.reduceSub, Nat.reduceLeDiff, f6] <;> rfl), (by simp only [go_sem, Nat.reduceAdd, Nat.reduceLT, Nat.reduceEqDiff, reduceIte, reduceCtorEq, Int.reduceBEq, Int.reduceBNe, Int.reduceLT, Int.reduceLE, Int.reduceGT, Int.reduceGE, Int.reduceEq, Int.reduceAdd, Int.reduceSub, Int.reduceMul, Nat.reduceMul, Nat.reduceSub, Nat.reduceLeDiff, f8] <;> rfl), (by simp only [go_sem, Nat.reduceAdd, Nat.reduceLT, Nat.reduceEqDiff, reduceIte, reduceCtorEq, Int.reduceBEq, Int.reduceBNe, Int.reduceLT, Int.reduceLE, Int.reduceGT, Int.reduceGE, Int.reduceEq, Int.reduceAdd, Int.reduceSub, Int.reduceMul, Nat.reduceMul, Nat.reduceSub, Nat.reduceLeDiff, f13] <;> rfl), (by simp only [go_sem, Nat.reduceAdd, Nat.reduceLT, Nat.reduceEqDiff, reduceIte, reduceCtorEq, Int.reduceBEq, Int.reduceBNe, Int.reduceLT, Int.reduceLE, Int.reduceGT, Int.reduceGE, Int.reduceEq, Int.reduceAdd, Int.reduceSub, Int.reduceMul, Nat.reduceMul, Nat.reduceSub, Nat.reduceLeDiff, f14] <;> rfl), (by simp only [go_sem, Nat.reduceAdd, Nat.reduceLT, Nat.reduceEqDiff, reduceIte, reduceCtorEq, Int.reduceBEq, Int.reduceBNe, Int.reduceLT, Int.reduceLE, Int.reduceGT, Int.reduceGE, Int.reduceEq, Int.reduceAdd, Int.reduceSub, Int.reduceMul, Nat.reduceMul, Nat.reduceSub, Nat.reduceLeDiff, f15] <;> rfl), (by simp only [go_sem, Nat.reduceAdd, Nat.reduceLT, Nat.reduceEqDiff, reduceIte, reduceCtorEq, Int.reduceBEq, Int.reduceBNe, Int.reduceLT, Int.reduceLE, Int.reduceGT, Int.reduceGE, Int.reduceEq, Int.reduceAdd, Int.reduceSub, Int.reduceMul, Nat.reduceMul, Nat.reduceSub, Nat.reduceLeDiff, f16] <;> rfl), (by simp only [go_sem, Nat.reduceAdd, Nat.reduceLT, Nat.reduceEqDiff, reduceIte, reduceCtorEq, Int.reduceBEq, Int.reduceBNe, Int.reduceLT, Int.reduceLE, Int.reduceGT, Int.reduceGE, Int.reduceEq, Int.reduceAdd, Int.reduceSub, Int.reduceMul, Nat.reduceMul, Nat.reduceSub, Nat.reduceLeDiff] <;> rfl), q1, hfr.trans q2 (fun _ _ h => h) fun _ _ h => h, hext.trans (q2.ext hext.le' hSc), ⟨fun y => ?_⟩, ?_, by omega, rfl⟩
    · rw [mem_erase hrise hin, hD.mem]
      have ht : xs.take (i + 1) = xs.take i ++ [xs[i]] := by rw [List.take_add_one, g1]; rfl
      rw [ht, List.mem_append, List.mem_singleton]
      constructor
      · rintro ⟨⟨h1, h2⟩, h3⟩
        refine ⟨h1, h2.imp id fun h => ⟨h.1, fun h' => h'.elim h.2 h3⟩⟩
      · rintro ⟨h1, h2⟩
        rcases h2 with h2 | h2
        · refine ⟨⟨h1, .inl h2⟩, fun e => ?_⟩
          subst e; rw [hsec] at h2; omega
        · exact ⟨⟨h1, .inr ⟨h2.1, fun h' => h2.2 (.inl h')⟩⟩, fun e => h2.2 (.inr e)⟩
    · rw [List.length_eraseIdx, if_pos hpl]; omega
  · have : i = xs.length := by omega
    have hv2 : v = .nilslice ∧ xs.length = 0 ∨ ∃ b, v = .slice b 0 xs.length (.upTo 1) := by
      rcases hb.inv with ⟨h1, h2, _⟩ | ⟨b, h1, _⟩
      · exact .inl ⟨h1, h2⟩
      · exact .inr ⟨b, h1⟩
    rcases hv2 with ⟨rfl, h0⟩ | ⟨b, rfl⟩
    · have : i = 0 := by omega
      subst this
      refine WS_runB 10 (by simp only [go_sem, Nat.reduceAdd, Nat.reduceLT, Nat.reduceEqDiff, reduceIte, reduceCtorEq, Int.reduceBEq, Int.reduceBNe, Int.reduceLT, Int.reduceLE, Int.reduceGT, Int.reduceGE, Int.reduceEq, Int.reduceAdd, Int.reduceSub, Int.reduceMul, Nat.reduceMul, Nat.reduceSub, Nat.reduceLeDiff, k12_6, f6, f8, f13, f14, f15, f16, f17]; rfl) ?_
      exact h _ _ ⟨0, crows, (by simp only [go_sem, Nat.reduceAdd, Nat.reduceLT, Nat.reduceEqDiff, reduceIte, reduceCtorEq, Int.reduceBEq, Int.reduceBNe, Int.reduceLT, Int.reduceLE, Int.reduceGT, Int.reduceGE, Int.reduceEq, Int.reduceAdd, Int.reduceSub, Int.reduceMul, Nat.reduceMul, Nat.reduceSub, Nat.reduceLeDiff, f6] <;> rfl), (by simp only [go_sem, Nat.reduceAdd, Nat.reduceLT, Nat.reduceEqDiff, reduceIte, reduceCtorEq, Int.reduceBEq, Int.reduceBNe, Int.reduceLT, Int.reduceLE, Int.reduceGT, Int.reduceGE, Int.reduceEq, Int.reduceAdd, Int.reduceSub, Int.reduceMul, Nat.reduceMul, Nat.reduceSub, Nat.reduceLeDiff, f8] <;> rfl), (by simp only [go_sem, Nat.reduceAdd, Nat.reduceLT, Nat.reduceEqDiff, reduceIte, reduceCtorEq, Int.reduceBEq, Int.reduceBNe, Int.reduceLT, Int.reduceLE, Int.reduceGT, Int.reduceGE, Int.reduceEq, Int.reduceAdd, Int.reduceSub, Int.reduceMul, Nat.reduceMul, Nat.reduceSub, Nat.reduceLeDiff, f13] <;> rfl), (by simp only [go_sem, Nat.reduceAdd, Nat.reduceLT, Nat.reduceEqDiff, reduceIte, reduceCtorEq, Int.reduceBEq, Int.reduceBNe, Int.reduceLT, Int.reduceLE, Int.reduceGT, Int.reduceGE, Int.reduceEq, Int.reduceAdd, Int.reduceSub, Int.reduceMul, Nat.reduceMul, Nat.reduceSub, Nat.reduceLeDiff, f14] <;> rfl), (by simp only [go_sem, Nat.reduceAdd, Nat.reduceLT, Nat.reduceEqDiff, reduceIte, reduceCtorEq, Int.reduceBEq, Int.reduceBNe, Int.reduceLT, Int.reduceLE, Int.reduceGT, Int.reduceGE, Int.reduceEq, Int.reduceAdd, Int.reduceSub, Int.reduceMul, Nat.reduceMul, Nat.reduceSub, Nat.reduceLeDiff, f15] <;> rfl), (by simp only [go_sem, Nat.reduceAdd, Nat.reduceLT, Nat.reduceEqDiff, reduceIte, reduceCtorEq, Int.reduceBEq, Int.reduceBNe, Int.reduceLT, Int.reduceLE, Int.reduceGT, Int.reduceGE, Int.reduceEq, Int.reduceAdd, Int.reduceSub, Int.reduceMul, Nat.reduceMul, Nat.reduceSub, Nat.reduceLeDiff, f16] <;> rfl), (by simp only [go_sem, Nat.reduceAdd, Nat.reduceLT, Nat.reduceEqDiff, reduceIte, reduceCtorEq, Int.reduceBEq, Int.reduceBNe, Int.reduceLT, Int.reduceLE, Int.reduceGT, Int.reduceGE, Int.reduceEq, Int.reduceAdd, Int.reduceSub, Int.reduceMul, Nat.reduceMul, Nat.reduceSub, Nat.reduceLeDiff, f17] <;> rfl), hset, hfr, hext, hD, hcnt, hi, by omega⟩
    · refine WS_runB 10 (by simp only [go_sem, Nat.reduceAdd, Nat.reduceLT, Nat.reduceEqDiff, reduceIte, reduceCtorEq, Int.reduceBEq, Int.reduceBNe, Int.reduceLT, Int.reduceLE, Int.reduceGT, Int.reduceGE, Int.reduceEq, Int.reduceAdd, Int.reduceSub, Int.reduceMul, Nat.reduceMul, Nat.reduceSub, Nat.reduceLeDiff, k12_6, f6, f8, f13, f14, f15, f16, f17, hlt]; rfl) ?_
      exact h _ _ ⟨i, crows, (by simp only [go_sem, Nat.reduceAdd, Nat.reduceLT, Nat.reduceEqDiff, reduceIte, reduceCtorEq, Int.reduceBEq, Int.reduceBNe, Int.reduceLT, Int.reduceLE, Int.reduceGT, Int.reduceGE, Int.reduceEq, Int.reduceAdd, Int.reduceSub, Int.reduceMul, Nat.reduceMul, Nat.reduceSub, Nat.reduceLeDiff, f6] <;> rfl), (by simp only [go_sem, Nat.reduceAdd, Nat.reduceLT, Nat.reduceEqDiff, reduceIte, reduceCtorEq, Int.reduceBEq, Int.reduceBNe, Int.reduceLT, Int.reduceLE, Int.reduceGT, Int.reduceGE, Int.reduceEq, Int.reduceAdd, Int.reduceSub, Int.reduceMul, Nat.reduceMul, Nat.reduceSub, Nat.reduceLeDiff, f8] <;> rfl), (by simp only [go_sem, Nat.reduceAdd, Nat.reduceLT, Nat.reduceEqDiff, reduceIte, reduceCtorEq, Int.reduceBEq, Int.reduceBNe, Int.reduceLT, Int.reduceLE, Int.reduceGT, Int.reduceGE, Int.reduceEq, Int.reduceAdd, Int.reduceSub, Int.reduceMul, Nat.reduceMul, Nat.reduceSub, Nat.reduceLeDiff, f13] <;> rfl), (by simp only [go_sem, Nat.reduceAdd, Nat.reduceLT, Nat.reduceEqDiff, reduceIte, reduceCtorEq, Int.reduceBEq, Int.reduceBNe, Int.reduceLT, Int.reduceLE, Int.reduceGT, Int.reduceGE, Int.reduceEq, Int.reduceAdd, Int.reduceSub, Int.reduceMul, Nat.reduceMul, Nat.reduceSub, Nat.reduceLeDiff, f14] <;> rfl), (by simp only [go_sem, Nat.reduceAdd, Nat.reduceLT, Nat.reduceEqDiff, reduceIte, reduceCtorEq, Int.reduceBEq, Int.reduceBNe, Int.reduceLT, Int.reduceLE, Int.reduceGT, Int.reduceGE, Int.reduceEq, Int.reduceAdd, Int.reduceSub, Int.reduceMul, Nat.reduceMul, Nat.reduceSub, Nat.reduceLeDiff, f15] <;> rfl), (by simp only [go_sem, Nat.reduceAdd, Nat.reduceLT, Nat.reduceEqDiff, reduceIte, reduceCtorEq, Int.reduceBEq, Int.reduceBNe, Int.reduceLT, Int.reduceLE, Int.reduceGT, Int.reduceGE, Int.reduceEq, Int.reduceAdd, Int.reduceSub, Int.reduceMul, Nat.reduceMul, Nat.reduceSub, Nat.reduceLeDiff, f16] <;> rfl), (by simp only [go_sem, Nat.reduceAdd, Nat.reduceLT, Nat.reduceEqDiff, reduceIte, reduceCtorEq, Int.reduceBEq, Int.reduceBNe, Int.reduceLT, Int.reduceLE, Int.reduceGT, Int.reduceGE, Int.reduceEq, Int.reduceAdd, Int.reduceSub, Int.reduceMul, Nat.reduceMul, Nat.reduceSub, Nat.reduceLeDiff, f17] <;> rfl), hset, hfr, hext, hD, hcnt, hi, by omega⟩
end Go.Proofs.Ytjidefnbancmfaa
