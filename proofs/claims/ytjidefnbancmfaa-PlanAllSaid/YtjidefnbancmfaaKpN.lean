/- A part of the proof: PPln13, PPln14, PPln15, PPln16, PPln17, PPln18, YtjidefnbancmfaaIns, T1, B27. -/
import Derived.Test.YtjidefnbancmfaaKpM
import Derived.Test.YtjidefnbancmfaaRows
import Derived.Shelf.Spec.SlicesInsertGrow
import Derived.Test.YtjidefnbancmfaaKpG
import Derived.Test.YtjidefnbancmfaaKpI
/- Plans: the work's take. -/
set_option linter.unusedVariables false
set_option maxRecDepth 10000
set_option linter.unusedSimpArgs false
namespace Delphi
theorem addVar_nodup {out : List (List Nat)} {t : Tm} (h : out.Nodup) : (addVar out t).Nodup := by
  unfold addVar
  split
  · rename_i hc
    rw [List.nodup_append]
    refine ⟨h, by simp, ?_⟩
    intro a ha b hb
    rw [List.mem_singleton] at hb
    rintro rfl
    exact hc.2 (hb ▸ ha)
  · exact h
theorem cVars_nodup (l : List Tm) : (cVars l).Nodup := by
  have : ∀ (l : List Tm) (out : List (List Nat)), out.Nodup → (l.foldl addVar out).Nodup := by
    intro l
    induction l with
    | nil => intro out h; exact h
    | cons t l ih => intro out h; exact ih _ (addVar_nodup h)
  exact this l [] List.nodup_nil
theorem newV_filter (bd : List (List Nat)) (x : Lt) : newV bd x = (cVars x.args).filter fun v => decide (v ∉ bd) := by
  have : ∀ (l : List Tm) (out out' : List (List Nat)), out = out'.filter (fun v => decide (v ∉ bd)) → l.foldl (newStep bd) out = (l.foldl addVar out').filter fun v => decide (v ∉ bd) := by
    intro l
    induction l with
    | nil => intro out out' h; exact h
    | cons t l ih =>
      intro out out' h
      refine ih _ _ ?_
      by_cases hk : t.kind = 1
      · by_cases hb : t.name ∈ bd
        · have e1 : newStep bd out t = out := if_neg fun h => h.2.1 hb
          rw [e1, h]
          unfold addVar
          split
          · rw [List.filter_append]
            simp [hb]
          · rfl
        · have hm : t.name ∈ out ↔ t.name ∈ out' := by rw [h, List.mem_filter]; simp [hb]
          by_cases ho : t.name ∈ out'
          · have e1 : newStep bd out t = out := if_neg fun h => h.2.2 (hm.2 ho)
            have e2 : addVar out' t = out' := if_neg fun h => h.2 ho
            rw [e1, e2, h]
          · have e1 : newStep bd out t = out ++ [t.name] := if_pos ⟨hk, hb, fun h => ho (hm.1 h)⟩
            have e2 : addVar out' t = out' ++ [t.name] := if_pos ⟨hk, ho⟩
            rw [e1, e2, List.filter_append, h]
            simp [hb]
      · have e1 : newStep bd out t = out := if_neg fun h => hk h.1
        have e2 : addVar out' t = out' := if_neg fun h => hk h.1
        rw [e1, e2, h]
  exact this x.args [] [] rfl
theorem newV_nil {bd : List (List Nat)} {x : Lt} (h : bndN bd x = x.args.length) : newV bd x = [] := by
  rw [List.eq_nil_iff_forall_not_mem]
  intro v hv
  obtain ⟨h1, t, ht, hk, rfl⟩ := mem_newV.1 hv
  exact h1 (bndN_full.1 h t ht hk)
/-- the variables that are bound, after the first j. -/
def bdUp (bd vs : List (List Nat)) (j : Nat) : List (List Nat) := bd ++ (vs.take j).filter fun v => decide (v ∉ bd)
theorem bdUp_mem {bd vs : List (List Nat)} (hn : vs.Nodup) {j : Nat} {v : List Nat} (hj : vs[j]? = some v) : v ∈ bdUp bd vs j ↔ v ∈ bd := by
  simp only [bdUp, List.mem_append, List.mem_filter, decide_eq_true_eq]
  constructor
  · rintro (h | ⟨h, h2⟩)
    · exact h
    · exfalso
      obtain ⟨p, hp⟩ := List.getElem?_of_mem h
      have hpj : p < j := by
        have : p < (vs.take j).length := (List.getElem?_eq_some_iff.1 hp).1
        rw [List.length_take] at this; omega
      rw [List.getElem?_take_of_lt hpj] at hp
      have hjl : j < vs.length := (List.getElem?_eq_some_iff.1 hj).1
      have hpl : p < vs.length := by omega
      have := List.pairwise_iff_getElem.1 hn p j hpl hjl hpj
      rw [List.getElem?_eq_getElem hpl] at hp
      rw [List.getElem?_eq_getElem hjl] at hj
      exact this ((Option.some.inj hp).trans (Option.some.inj hj).symm)
  · exact .inl
theorem bdUp_succ {bd vs : List (List Nat)} {j : Nat} {v : List Nat} (hj : vs[j]? = some v) : bdUp bd vs (j + 1) = if v ∈ bd then bdUp bd vs j else bdUp bd vs j ++ [v] := by
  have : vs.take (j + 1) = vs.take j ++ [v] := by rw [List.take_add_one, hj]; rfl
  simp only [bdUp, this, List.filter_append]
  by_cases h : v ∈ bd
  · simp [h]
  · simp [h]
end Delphi
namespace Go.Proofs.Ytjidefnbancmfaa
open Go.AE Delphi
variable {tab : Tab}
structure WkM (a w : AW) (T : Nat → Prop) (body : List Lt) (u : V) (bw mb md : Nat) (l : List Nat) (bd : List (List Nat)) (ov bv : V) (So Sb : Nat → Prop) (M : Ps) (D : List (Int × Int)) (k : Nat) : Prop where
  frm : Frm (fun _ => False) a w
  lits : RdL (LtC T) T a u 3 body
  cell : CB w bw [u, .map mb, .map md, ov, bv]
  mB : SM w mb M
  seen : Seen M bd k
  mD : IM w md D
  dn : ∀ j : Nat, aget D (Int.ofNat j) = if j ∈ l then some 1 else none
  ord : Bt So w ov 1 l.length (natsC l)
  bnd : Bt Sb w bv 1 bd.length (strsC bd)
  ge : a.next ≤ bw ∧ a.next ≤ mb ∧ a.next ≤ md ∧ bw ≠ mb ∧ bw ≠ md ∧ mb ≠ md
  sepO : ∀ x, So x → a.next ≤ x ∧ x < w.next ∧ x ≠ bw ∧ x ≠ mb ∧ x ≠ md ∧ ¬ Sb x
  sepB : ∀ x, Sb x → a.next ≤ x ∧ x < w.next ∧ x ≠ bw ∧ x ≠ mb ∧ x ≠ md
theorem WkS.m {a w : AW} {T : Nat → Prop} {body : List Lt} {u : V} {bw mb md k : Nat} {s : PlSt} {ov bv : V} {So Sb : Nat → Prop} {M : Ps} {D : List (Int × Int)} (h : WkS a w T body u bw mb md s ov bv So Sb M D k) : WkM a w T body u bw mb md s.1 s.2 ov bv So Sb M D k := ⟨h.frm, h.lits, h.cell, h.mB, h.seen, h.mD, h.dn, h.ord, h.bnd, h.ge, h.sepO, h.sepB⟩
theorem WkM.s {a w : AW} {T : Nat → Prop} {body : List Lt} {u : V} {bw mb md k : Nat} {s : PlSt} {ov bv : V} {So Sb : Nat → Prop} {M : Ps} {D : List (Int × Int)} (h : WkM a w T body u bw mb md s.1 s.2 ov bv So Sb M D k) (hi : PlInv body s) : WkS a w T body u bw mb md s ov bv So Sb M D k := ⟨h.frm, h.lits, h.cell, h.mB, h.seen, h.mD, h.dn, h.ord, h.bnd, h.ge, h.sepO, h.sepB, hi⟩
theorem WkM.ext {a w w2 : AW} {T : Nat → Prop} {body : List Lt} {u : V} {bw mb md k : Nat} {l : List Nat} {bd : List (List Nat)} {ov bv : V} {So Sb : Nat → Prop} {M : Ps} {D : List (Int × Int)} (h : WkM a w T body u bw mb md l bd ov bv So Sb M D k) (hf : Frm (fun _ => False) w w2) : WkM a w2 T body u bw mb md l bd ov bv So Sb M D k :=
  have nx := hf.next
  ⟨h.frm.tr hf, h.lits, h.cell.frm hf fun h => h, h.mB.frm hf fun h => h, h.seen, h.mD.frm hf fun h => h, h.dn, h.ord.frm hf fun _ _ h => h, h.bnd.frm hf fun _ _ h => h, h.ge, fun x hx => by have h1 := h.sepO x hx; exact ⟨h1.1, by omega, h1.2.2⟩, fun x hx => by have h1 := h.sepB x hx; exact ⟨h1.1, by omega, h1.2.2⟩⟩
/-- it is marked as done, and stands in the order. -/
theorem WkM.take1 {a w : AW} {T : Nat → Prop} {body : List Lt} {u : V} {bw mb md k i : Nat} {l : List Nat} {bd : List (List Nat)} {ov bv : V} {So Sb : Nat → Prop} {M : Ps} {D : List (Int × Int)} (h : WkM a w T body u bw mb md l bd ov bv So Sb M D k) (hl : l.length ≤ 100) :
    ∃ w2 ov' w5 S5 D', w.putV (.scalar .int) (.map md) (.int .i64 (Int.ofNat i)) (.int .i64 1) = some w2 ∧ (w2.fresh [.int .i64 (Int.ofNat i)]).appendV 1 8 ov 1 [.int .i64 (Int.ofNat i)] = some (ov', w5) ∧ w5.store bw 3 [ov'] = some (w5.put bw [u, .map mb, .map md, ov', bv]) ∧ CB w2 bw [u, .map mb, .map md, ov, bv] ∧ CB (w2.fresh [.int .i64 (Int.ofNat i)]) bw [u, .map mb, .map md, ov, bv] ∧ ov'.cells = [ov'] ∧ WkM a (w5.put bw [u, .map mb, .map md, ov', bv]) T body u bw mb md (l ++ [i]) bd ov' bv S5 Sb M D' k := by
  obtain ⟨g1, g2, g3, g4, g5, g6⟩ := h.ge
  obtain ⟨w2, p1, p2, p3, p4⟩ := h.mD.put intKey (Int.ofNat i) 1
  have hc2 := h.cell.frm p3 (by show ¬ bw = md; exact g5)
  have hb2 := h.mB.frm p3 (by show ¬ mb = md; exact g6)
  have ho2 := h.ord.frm p3 fun x hx he => (h.sepO x hx).2.2.2.2.1 he
  have hbn2 := h.bnd.frm p3 fun x hx he => (h.sepB x hx).2.2.2.2 he
  have hSo : ∀ b, So b → b < w2.next := fun b hb => by rw [p4]; exact (h.sepO b hb).2.1
  obtain ⟨ov', w5, S5, u1, u2, u3, u4⟩ := ho2.push (news := [V.int .i64 (Int.ofNat i)]) (bytes := 8) hSo (by omega) rfl rfl (by omega) (by omega)
  have nw : ¬ So bw := fun hx => (h.sepO _ hx).2.2.1 rfl
  have nb : ¬ So mb := fun hx => (h.sepO _ hx).2.2.2.1 rfl
  have nd : ¬ So md := fun hx => (h.sepO _ hx).2.2.2.2.1 rfl
  have hc5 := hc2.frm u3 nw
  have st := hc5.set (i := 3) (v := ov') (by simp) u2.one.1
  have pf : Frm (fun x => x = bw) w5 (w5.put bw [u, .map mb, .map md, ov', bv]) := put_frm
  have nx := u3.next
  have hfa := h.frm.next
  have lw := h.cell.lt
  have lmb := h.mB.lt
  have lmd := h.mD.lt
  have sS5 : ∀ x, S5 x → a.next ≤ x ∧ x < w5.next ∧ x ≠ bw ∧ x ≠ mb ∧ x ≠ md ∧ ¬ Sb x := by
    intro x hx
    obtain ⟨m1, m2⟩ := u4 x hx
    rcases m2 with m2 | m2
    · have h1 := h.sepO x m2; exact ⟨h1.1, m1, h1.2.2⟩
    · exact ⟨by omega, m1, by omega, by omega, by omega, fun hb => by have := (h.sepB x hb).2.1; omega⟩
  refine ⟨w2, ov', w5, S5, _, p1, u1, st, hc2, hc2.frm (fresh_frm (S := fun _ => False) _ _) fun h => h, u2.one.2, ⟨?_, h.lits, put_cb hc5.lt, (hb2.frm u3 nb).frm pf (fun e => g4 e.symm), h.seen, (p2.frm u3 nd).frm pf (fun e => g5 e.symm), ?_, ?_, (hbn2.frm u3 fun x hx hs => (h.sepO x hs).2.2.2.2.2 hx).frm pf fun x hx => (h.sepB x hx).2.2.1, h.ge, fun x hx => sS5 x hx, fun x hx => ?_⟩⟩
  · refine ((h.frm.trans p3 (fun _ _ h => h) ?_).trans u3 (fun _ _ h => h) fun x hx hs => by have := (h.sepO x hs).1; omega).out (by omega) rfl
    rintro x hx rfl; omega
  · intro j
    by_cases e : j = i
    · subst e
      rw [aget_put_same, if_pos (by simp)]
    · have e2 : Int.ofNat j ≠ Int.ofNat i := fun h => e (Int.ofNat.inj h)
      rw [aget_put_ne _ _ _ _ e2, h.dn j]
      by_cases hm : j ∈ l
      · rw [if_pos hm, if_pos (by simp [hm])]
      · rw [if_neg hm, if_neg (by simp [hm, e])]
  · have e : natsC (l ++ [i]) = natsC l ++ [V.int .i64 (Int.ofNat i)] := by simp [natsC]
    rw [e, List.length_append, List.length_singleton]
    exact u2.frm pf fun x hx => (sS5 x hx).2.2.1
  · have h1 := h.sepB x hx
    exact ⟨h1.1, by have : (w5.put bw [u, .map mb, .map md, ov', bv]).next = w5.next := rfl; omega, h1.2.2⟩
end Go.Proofs.Ytjidefnbancmfaa

/- Plans: the work's take, whole. -/
set_option linter.unusedVariables false
set_option maxRecDepth 10000
set_option linter.unusedSimpArgs false
namespace Go.Proofs.Ytjidefnbancmfaa
open Go.AE Delphi
variable {tab : Tab}
theorem Seen.mono {M : Ps} {bd : List (List Nat)} {k k' : Nat} (h : Seen M bd k) (hk : k ≤ k') : Seen M bd k' := fun x => ⟨(h x).1, fun c hc => by have := (h x).2 c hc; omega⟩
theorem WkM.up {a w : AW} {T : Nat → Prop} {body : List Lt} {u : V} {bw mb md k k' : Nat} {l : List Nat} {bd : List (List Nat)} {ov bv : V} {So Sb : Nat → Prop} {M : Ps} {D : List (Int × Int)} (h : WkM a w T body u bw mb md l bd ov bv So Sb M D k) (hk : k ≤ k') : WkM a w T body u bw mb md l bd ov bv So Sb M D k' := ⟨h.frm, h.lits, h.cell, h.mB, Seen.mono h.seen hk, h.mD, h.dn, h.ord, h.bnd, h.ge, h.sepO, h.sepB⟩
/-- a variable is counted. -/
theorem WkM.cnt {a w : AW} {T : Nat → Prop} {body : List Lt} {u : V} {bw mb md k n : Nat} {l : List Nat} {bd : List (List Nat)} {v : List Nat} {ov bv : V} {So Sb : Nat → Prop} {M : Ps} {D : List (Int × Int)} (h : WkM a w T body u bw mb md l bd ov bv So Sb M D k) (hn : n ≤ k) :
    ∃ w2, w.putV (.scalar .str) (.map mb) (.str v) (.int .i64 (Int.ofNat (n + 1))) = some w2 ∧ Frm (fun x => x = mb) w w2 ∧ w2.next = w.next ∧ SM w2 mb (aput M v (Int.ofNat (n + 1))) ∧
      (v ∈ bd → WkM a w2 T body u bw mb md l bd ov bv So Sb (aput M v (Int.ofNat (n + 1))) D (k + 1)) ∧
      (v ∉ bd → bd.length ≤ 1000 → CB w2 bw [u, .map mb, .map md, ov, bv] ∧ ∃ bv' w5 S5, (w2.fresh [.str v]).appendV 1 16 bv 1 [.str v] = some (bv', w5) ∧ w5.store bw 4 [bv'] = some (w5.put bw [u, .map mb, .map md, ov, bv']) ∧ bv'.cells = [bv'] ∧ WkM a (w5.put bw [u, .map mb, .map md, ov, bv']) T body u bw mb md l (bd ++ [v]) ov bv' So S5 (aput M v (Int.ofNat (n + 1))) D (k + 1) ∧
        Frm (fun x => x = mb ∨ x = bw ∨ Sb x) w (w5.put bw [u, .map mb, .map md, ov, bv']) ∧ ∀ x, S5 x → Sb x ∨ w.next ≤ x) := by
  obtain ⟨g1, g2, g3, g4, g5, g6⟩ := h.ge
  obtain ⟨w2, p1, p2, p3, p4⟩ := h.mB.put strKey v (Int.ofNat (n + 1))
  have hc2 := h.cell.frm p3 (by show ¬ bw = mb; exact g4)
  have hd2 := h.mD.frm p3 (by show ¬ md = mb; exact fun e => g6 e.symm)
  have ho2 := h.ord.frm p3 fun x hx he => (h.sepO x hx).2.2.2.1 he
  have hbn2 := h.bnd.frm p3 fun x hx he => (h.sepB x hx).2.2.2.1 he
  have hfa := h.frm.next
  have lw := h.cell.lt
  have lmb := h.mB.lt
  have lmd := h.mD.lt
  have f02 : Frm (fun _ => False) a w2 := h.frm.trans p3 (fun _ _ h => h) (by rintro x hx rfl; omega)
  refine ⟨w2, p1, p3, p4, p2, fun hv => ?_, fun hv hl => ?_⟩
  · have hs := seen_put (out' := bd) h.seen hn (k := v) fun x => ⟨.inl, fun h => h.elim id fun h => h ▸ hv⟩
    exact ⟨f02, h.lits, hc2, p2, hs, hd2, h.dn, ho2, hbn2, h.ge, fun x hx => by have h1 := h.sepO x hx; exact ⟨h1.1, by omega, h1.2.2⟩, fun x hx => by have h1 := h.sepB x hx; exact ⟨h1.1, by omega, h1.2.2⟩⟩
  · have hs := seen_put (out' := bd ++ [v]) h.seen hn (k := v) fun x => by simp
    have hSb : ∀ b, Sb b → b < w2.next := fun b hb => by rw [p4]; exact (h.sepB b hb).2.1
    obtain ⟨bv', w5, S5, u1, u2, u3, u4⟩ := hbn2.push (news := [V.str v]) (bytes := 16) hSb (by omega) rfl rfl (by omega) (by omega)
    have nw : ¬ Sb bw := fun hx => (h.sepB _ hx).2.2.1 rfl
    have nb : ¬ Sb mb := fun hx => (h.sepB _ hx).2.2.2.1 rfl
    have nd : ¬ Sb md := fun hx => (h.sepB _ hx).2.2.2.2 rfl
    have hc5 := hc2.frm u3 nw
    have st := hc5.set (i := 4) (v := bv') (by simp) u2.one.1
    have pf : Frm (fun x => x = bw) w5 (w5.put bw [u, .map mb, .map md, ov, bv']) := put_frm
    have nx := u3.next
    have sS5 : ∀ x, S5 x → a.next ≤ x ∧ x < w5.next ∧ x ≠ bw ∧ x ≠ mb ∧ x ≠ md := by
      intro x hx
      obtain ⟨m1, m2⟩ := u4 x hx
      rcases m2 with m2 | m2
      · have h1 := h.sepB x m2; exact ⟨h1.1, m1, h1.2.2⟩
      · exact ⟨by omega, m1, by omega, by omega, by omega⟩
    refine ⟨hc2, bv', w5, S5, u1, st, u2.one.2, ⟨(f02.trans u3 (fun _ _ h => h) fun x hx hs => by have := (h.sepB x hs).1; omega).out (by omega) rfl, h.lits, put_cb hc5.lt, (p2.frm u3 nb).frm pf (fun e => g4 e.symm), hs, (hd2.frm u3 nd).frm pf (fun e => g5 e.symm), h.dn, (ho2.frm u3 fun x hx hs => (h.sepO x hx).2.2.2.2.2 hs).frm pf fun x hx => (h.sepO x hx).2.2.1, ?_, h.ge, fun x hx => ?_, fun x hx => sS5 x hx⟩, ?_, fun x hx => (u4 x hx).2.imp id fun h => by omega⟩
    · have e : strsC (bd ++ [v]) = strsC bd ++ [V.str v] := by simp [strsC]
      rw [e, List.length_append, List.length_singleton]
      exact u2.frm pf fun x hx => (sS5 x hx).2.2.1
    · have h1 := h.sepO x hx
      refine ⟨h1.1, by have : (w5.put bw [u, .map mb, .map md, ov, bv']).next = w5.next := rfl; omega, h1.2.2.1, h1.2.2.2.1, h1.2.2.2.2.1, fun h5 => ?_⟩
      rcases (u4 x h5).2 with m2 | m2
      · exact h1.2.2.2.2.2 m2
      · omega
    · exact (p3.trans u3 (fun _ _ h => .inl h) fun _ _ h => .inr (.inr h)).trans pf (fun _ _ h => h) fun _ _ h => .inr (.inl h)
def TkI (a : AW) (T : Nat → Prop) (body : List Lt) (u : V) (bw mb md k : Nat) (l : List Nat) (bd vs : List (List Nat)) (ov vv : V) (So Sv : Nat → Prop) (D : List (Int × Int)) (q : Nat) (f : Fr) (w : AW) : Prop :=
  ∃ j bv Sb M, f.get 0 = some (.ptr bw 0) ∧ f.get 40 = some vv ∧ f.get 41 = some (.int .i64 (Int.ofNat vs.length)) ∧ f.get 42 = some (.int .i64 (Int.ofNat j)) ∧ j ≤ vs.length ∧ q = vs.length - j ∧
    WkM a w T body u bw mb md l (bdUp bd vs j) ov bv So Sb M D (k + j) ∧ Bt Sv w vv 1 vs.length (strsC vs) ∧ ∀ y, Sv y → y < w.next ∧ y ≠ bw ∧ y ≠ mb ∧ ¬ Sb y
theorem bdUp_len (bd vs : List (List Nat)) (j : Nat) : (bdUp bd vs j).length ≤ bd.length + j := by
  have h1 := List.length_filter_le (fun v => decide (v ∉ bd)) (vs.take j)
  have h2 : (vs.take j).length ≤ j := by rw [List.length_take]; omega
  simp only [bdUp, List.length_append]
  omega
/-- take. -/
theorem take_ok (C : Codes tab) {T : Nat → Prop} {a w : AW} {body : List Lt} {u : V} {bw mb md k i : Nat} {s : PlSt} {ov bv : V} {So Sb : Nat → Prop} {M : Ps} {D : List (Int × Int)} {K : V → AW → Prop} (hA : WkS a w T body u bw mb md s ov bv So Sb M D k) (hi : i < body.length) (hargs : ∀ x ∈ body, x.args.length ≤ 5) (hl : s.1.length ≤ 100) (hk : k ≤ 1000) (hc : (litAt body i).kind = 1 ∨ bndN s.2 (litAt body i) = (litAt body i).args.length)
    (h : ∀ w' ov' bv' So' Sb' M' D', WkS a w' T body u bw mb md (takeP body s i) ov' bv' So' Sb' M' D' (k + 5) → K (.tuple []) w') : WF tab n_plan_work_take [.ptr bw 0, .int .i64 (Int.ofNat i)] w K := by
  refine WF_of C.c_plan_work_take rfl ?_
  obtain ⟨t, ht⟩ : ∃ t, body[i]? = some t := ⟨_, List.getElem?_eq_getElem hi⟩
  have hla : litAt body i = t := litAt_some ht
  have ha5 := hargs t (List.mem_of_getElem? ht)
  rw [hla] at hc
  have hinv := hA.inv.take hi hargs
  have sl := hA.inv.len
  obtain ⟨w2, ov', w5, S5, D', u1, u2, u3, u4, u5, u6, hM⟩ := hA.m.take1 (i := i) hl
  have lmd : w.load bw 2 1 = some [.map md] := by rw [hA.cell.load]; rfl
  have l3 : (w2.fresh [.int .i64 (Int.ofNat i)]).load bw 3 1 = some [ov] := by rw [u5.load]; rfl
  have l3' : w2.load bw 3 1 = some [ov] := by rw [u4.load]; rfl
  have el := elems_fresh (w := w2) (esz := 1) (n := 1) (cs := [V.int .i64 (Int.ofNat i)]) (c := .known 1) (by omega) rfl
  have hov : over [V.int .i64 0] 0 [V.int .i64 (Int.ofNat i)] = some [V.int .i64 (Int.ofNat i)] := rfl
  obtain ⟨w6, hw6⟩ : ∃ w6, w6 = w5.put bw [u, .map mb, .map md, ov', bv] := ⟨_, rfl⟩
  rw [← hw6] at u3 hM
  have l0 : w6.load bw 0 1 = some [u] := by rw [hM.cell.load]; rfl
  obtain ⟨b, o, c, v, rfl, _, a1, a2, hrv⟩ : ∃ b o c v, u = .slice b o body.length c ∧ w6.load b (o + i * 3) 3 = some [.int .i64 (Int.ofNat t.kind), .str t.name, v] ∧ w6.load b (o + i * 3) 1 = some [.int .i64 (Int.ofNat t.kind)] ∧ w6.load b (o + i * 3 + 2) 1 = some [v] ∧ Rd T w6 v 3 t.args.length (tmsC t.args) := by
    obtain ⟨b, o, c, v, h1, _, _, h2, h4, _, h5, h3⟩ := lits_at (hM.lits.frm (fun _ _ hl => hl.frm hM.frm fun _ _ h => h) hM.frm fun _ _ h => h) ht
    exact ⟨b, o, c, v, h1, h2, h4, h5, h3⟩
  by_cases hk1 : t.kind = 1
  case neg =>
    have hnil : newV s.2 t = [] := newV_nil (hc.resolve_left hk1)
    have e : takeP body s i = (s.1 ++ [i], s.2) := by simp [takeP, hla, hnil]
    refine WS_run 1000 (by simp only [go_sem, eRun_exit, Nat.reduceAdd, Nat.reduceLT, Nat.reduceEqDiff, reduceIte, reduceCtorEq, Nat.reduceLeDiff, k_plan_work_take, k_plan_work_take_p7, k_plan_work_take_p6, lmd, u1, l3, l3', evParts, fillV, hov, el, u2, u3, u6, l0, hi, a1, hk1, List.length_cons, List.length_nil]; rfl) ?_
    refine WS_ret ⟨_, by simp only [go_sem, eRun_exit, Nat.reduceAdd, Nat.reduceLT, Nat.reduceEqDiff, reduceIte, reduceCtorEq, Nat.reduceLeDiff, k_plan_work_take]; rfl, ?_⟩
    exact h w6 ov' bv S5 Sb M D' (WkM.s (by rw [e]; exact hM.up (by omega)) hinv)
  have a1' : w6.load b (o + i * 3) 1 = some [.int .i64 1] := by rw [a1, hk1]; rfl
  refine WS_run 1000 (by simp only [go_sem, eRun_exit, Nat.reduceAdd, Nat.reduceLT, Nat.reduceEqDiff, reduceIte, reduceCtorEq, Nat.reduceLeDiff, k_plan_work_take, k_plan_work_take_p7, k_plan_work_take_p6, k_plan_work_take_p5, lmd, u1, l3, l3', evParts, fillV, hov, el, u2, u3, u6, l0, hi, a1', a2, List.length_cons, List.length_nil]; rfl) ?_
  refine WS_call (by simp only [go_sem, eRun_exit, Nat.reduceAdd, Nat.reduceLT, Nat.reduceEqDiff, reduceIte, reduceCtorEq, Nat.reduceLeDiff]) (by simp only [go_sem, eRun_exit, Nat.reduceAdd, Nat.reduceLT, Nat.reduceEqDiff, reduceIte, reduceCtorEq, Nat.reduceLeDiff]; rfl) ?_
  refine vars_ok C hrv (by omega) fun vv w7 Sv q1 q2 q3 => ?_
  have hM7 := hM.ext q2
  have hvl := cVars_len t.args
  have hnd := cVars_nodup t.args
  have hnew : newV s.2 t = (cVars t.args).filter fun v => decide (v ∉ s.2) := newV_filter s.2 t
  generalize cVars t.args = vs at q1 hvl hnd hnew
  have hvv := q1.lenV
  have e0 : bdUp s.2 vs 0 = s.2 := by simp [bdUp]
  refine WS_run 1000 (by simp only [go_sem, eRun_exit, Nat.reduceAdd, Nat.reduceLT, Nat.reduceEqDiff, reduceIte, reduceCtorEq, Nat.reduceLeDiff, hvv]; rfl) ?_
  refine WS_loopJ (TkI a T body (.slice b o body.length c) bw mb md k (s.1 ++ [i]) s.2 vs ov' vv S5 Sv D') (fun f w => ∃ bv Sb M, WkM a w T body (.slice b o body.length c) bw mb md (s.1 ++ [i]) (bdUp s.2 vs vs.length) ov' bv S5 Sb M D' (k + vs.length)) ?_ ?_ vs.length
    ⟨0, bv, Sb, M, (by simp only [go_sem, eRun_exit, Nat.reduceAdd, Nat.reduceLT, Nat.reduceEqDiff, reduceIte, reduceCtorEq, Nat.reduceLeDiff] <;> rfl), (by simp only [go_sem, eRun_exit, Nat.reduceAdd, Nat.reduceLT, Nat.reduceEqDiff, reduceIte, reduceCtorEq, Nat.reduceLeDiff] <;> rfl), (by simp only [go_sem, eRun_exit, Nat.reduceAdd, Nat.reduceLT, Nat.reduceEqDiff, reduceIte, reduceCtorEq, Nat.reduceLeDiff] <;> rfl), (by simp only [go_sem, eRun_exit, Nat.reduceAdd, Nat.reduceLT, Nat.reduceEqDiff, reduceIte, reduceCtorEq, Nat.reduceLeDiff] <;> rfl), by omega, rfl, by rw [e0]; exact hM7, q1, fun y hy => ⟨(q3 y hy).2, fun e => ?_, fun e => ?_, fun hb => ?_⟩⟩
  · rintro q f w ⟨j, bv, Sb, M, f0, f40, f41, f42, hj, rfl, hW, hB, hS⟩ ih exit
    by_cases hlt : j < vs.length
    case neg =>
      have e : j = vs.length := by omega
      refine WS_runB 1000 (by simp only [go_sem, Nat.reduceAdd, Nat.reduceLT, Nat.reduceEqDiff, reduceIte, reduceCtorEq, Nat.reduceLeDiff, k_plan_work_take_p4, f41, f42, hlt]; rfl) ?_
      subst e
      exact exit _ _ _ ⟨bv, Sb, M, hW⟩ rfl
    obtain ⟨x, hx⟩ : ∃ x, vs[j]? = some x := ⟨_, List.getElem?_eq_getElem hlt⟩
    have hwr : IntKind.wrap .i64 (Int.ofNat j + 1) = Int.ofNat (j + 1) := wrap_succ (by omega)
    rcases hB.rd.inv with ⟨_, q2, _⟩ | ⟨bx, ox, cx, rfl, hBx⟩
    · omega
    have lx : w.load bx (ox + j) 1 = some [.str x] := hBx.cell (by omega) (by rw [strsC, List.getElem?_map, hx]; rfl)
    have l1 : w.load bw 1 1 = some [.map mb] := by rw [hW.cell.load]; rfl
    obtain ⟨n, hn1, hn2, hn3⟩ := seen_look hW.seen x
    have look := hW.mB.look strKey (.int .i64 0) x
    rw [hn3] at look
    have hw1 : IntKind.wrap .i64 (Int.ofNat n + 1) = Int.ofNat (n + 1) := wrap_succ (by omega)
    obtain ⟨w8, p1, p2, p3, p4, p5, p6⟩ := hW.cnt (v := x) hn1
    have look2 := p4.look strKey (.int .i64 0) x
    rw [aget_put_same] at look2
    simp only [mres] at look2
    have hc8 := hW.cell.frm p2 (by show ¬ bw = mb; exact hW.ge.2.2.2.1)
    have l8 : w8.load bw 1 1 = some [.map mb] := by rw [hc8.load]; rfl
    have bl := bdUp_len s.2 vs j
    have esucc := bdUp_succ (bd := s.2) hx
    have hmem := bdUp_mem (bd := s.2) hnd hx
    by_cases hin : x ∈ bdUp s.2 vs j
    · have hn0 : ¬ n = 0 := fun h => hn2.1 h hin
      have hne : ¬ n + 1 = 1 := by omega
      rw [if_pos (hmem.1 hin)] at esucc
      refine WS_run 1000 (by simp only [go_sem, eRun_exit, Nat.reduceAdd, Nat.reduceLT, Nat.reduceEqDiff, reduceIte, reduceCtorEq, Nat.reduceLeDiff, k_plan_work_take_p4, k_plan_work_take_p3, k_plan_work_take_p2, k_plan_work_take_p1, f0, f40, f41, f42, hlt, lx, l1, look, hw1, p1, l8, look2, hne, Nat.mul_one, hwr]; rfl) ?_
      exact ih _ _ _ (by omega) ⟨j + 1, bv, Sb, _, (by simp only [go_sem, eRun_exit, Nat.reduceAdd, Nat.reduceLT, Nat.reduceEqDiff, reduceIte, reduceCtorEq, Nat.reduceLeDiff, f0] <;> rfl), (by simp only [go_sem, eRun_exit, Nat.reduceAdd, Nat.reduceLT, Nat.reduceEqDiff, reduceIte, reduceCtorEq, Nat.reduceLeDiff, f40] <;> rfl), (by simp only [go_sem, eRun_exit, Nat.reduceAdd, Nat.reduceLT, Nat.reduceEqDiff, reduceIte, reduceCtorEq, Nat.reduceLeDiff, f41] <;> rfl), (by simp only [go_sem, eRun_exit, Nat.reduceAdd, Nat.reduceLT, Nat.reduceEqDiff, reduceIte, reduceCtorEq, Nat.reduceLeDiff] <;> rfl), by omega, rfl, by rw [esucc]; exact p5 hin, hB.frm p2 fun y hy => (hS y hy).2.2.1, fun y hy => by have := hS y hy; exact ⟨by omega, this.2⟩⟩
    · have hn0 : n = 0 := hn2.2 hin
      subst hn0
      rw [if_neg fun h => hin (hmem.2 h)] at esucc
      obtain ⟨hc8', bv', w9, S9, r1, r2, r3, r4, r5, r6⟩ := p6 hin (by omega)
      have l84 : w8.load bw 4 1 = some [bv] := by rw [hc8.load]; rfl
      have el2 := elems_fresh (w := w8) (esz := 1) (n := 1) (cs := [V.str x]) (c := .known 1) (by omega) rfl
      have hov2 : over [V.str []] 0 [V.str x] = some [V.str x] := rfl
      refine WS_run 1000 (by simp only [go_sem, eRun_exit, Nat.reduceAdd, Nat.reduceLT, Nat.reduceEqDiff, reduceIte, reduceCtorEq, Nat.reduceLeDiff, k_plan_work_take_p4, k_plan_work_take_p3, k_plan_work_take_p2, k_plan_work_take_p1, k_plan_work_take_p0, f0, f40, f41, f42, hlt, lx, l1, look, hw1, p1, l8, look2, l84, evParts, fillV, hov2, el2, r1, r2, r3, Nat.mul_one, hwr, List.length_cons, List.length_nil]; rfl) ?_
      have nx := r5.next
      refine ih _ _ _ (by omega) ⟨j + 1, bv', S9, _, (by simp only [go_sem, eRun_exit, Nat.reduceAdd, Nat.reduceLT, Nat.reduceEqDiff, reduceIte, reduceCtorEq, Nat.reduceLeDiff, f0] <;> rfl), (by simp only [go_sem, eRun_exit, Nat.reduceAdd, Nat.reduceLT, Nat.reduceEqDiff, reduceIte, reduceCtorEq, Nat.reduceLeDiff, f40] <;> rfl), (by simp only [go_sem, eRun_exit, Nat.reduceAdd, Nat.reduceLT, Nat.reduceEqDiff, reduceIte, reduceCtorEq, Nat.reduceLeDiff, f41] <;> rfl), (by simp only [go_sem, eRun_exit, Nat.reduceAdd, Nat.reduceLT, Nat.reduceEqDiff, reduceIte, reduceCtorEq, Nat.reduceLeDiff] <;> rfl), by omega, rfl, by rw [esucc]; exact r4, hB.frm r5 fun y hy h => ?_, fun y hy => ?_⟩
      · have := hS y hy
        rcases h with h | h | h
        · exact this.2.2.1 h
        · exact this.2.1 h
        · exact this.2.2.2 h
      · have h1 := hS y hy
        refine ⟨by omega, h1.2.1, h1.2.2.1, fun h => ?_⟩
        rcases r6 y h with h | h
        · exact h1.2.2.2 h
        · omega
  · rintro f w ⟨bv2, Sb2, M2, hW⟩
    refine WS_nil ⟨_, by simp only [go_sem, eRun_exit, Nat.reduceAdd, Nat.reduceLT, Nat.reduceEqDiff, reduceIte, reduceCtorEq, Nat.reduceLeDiff, k_plan_work_take]; rfl, ?_⟩
    have e1 : bdUp s.2 vs vs.length = s.2 ++ newV s.2 t := by rw [hnew, bdUp, List.take_length]
    have e : takeP body s i = (s.1 ++ [i], bdUp s.2 vs vs.length) := by simp [takeP, hla, e1]
    exact h w ov' bv2 S5 Sb2 M2 D' (WkM.s (by rw [e]; exact hW.up (by omega)) hinv)
  · have := hM.cell.lt; have := (q3 y hy).1; omega
  · have := hM.mB.lt; have := (q3 y hy).1; omega
  · have := (hM.sepB y hb).2.1; have := (q3 y hy).1; omega
end Go.Proofs.Ytjidefnbancmfaa

/- Plans: Make. -/
set_option linter.unusedVariables false
set_option maxRecDepth 10000
set_option linter.unusedSimpArgs false
namespace Go.Proofs.Ytjidefnbancmfaa
open Go.AE Delphi
variable {tab : Tab}
structure MkF (f : Fr) (n2 n4 bw : Nat) : Prop where
  f2 : f.get 2 = some (.ptr n2 0)
  f4 : f.get 4 = some (.ptr n4 0)
  f6 : f.get 6 = some (.ptr bw 0)
def MkI (a : AW) (T : Nat → Prop) (r : Rl) (u : V) (n2 n4 bw mb md : Nat) (fin : PlSt) (q : Nat) (f : Fr) (w : AW) : Prop :=
  ∃ s ov bv So Sb M D k, MkF f n2 n4 bw ∧ WkS a w T r.body u bw mb md s ov bv So Sb M D k ∧ s.1.length ≤ r.body.length ∧ q = r.body.length - s.1.length ∧ planRun r.body q s = fin ∧ k ≤ 5 * s.1.length
def MkJ (a : AW) (T : Nat → Prop) (r : Rl) (u : V) (n2 n4 bw mb md : Nat) (fin : PlSt) (f : Fr) (w : AW) : Prop :=
  ∃ ov bv So Sb M D k, MkF f n2 n4 bw ∧ WkS a w T r.body u bw mb md fin ov bv So Sb M D k
theorem mk_step (C : Codes tab) {a w : AW} {T : Nat → Prop} {r : Rl} {hv u : V} {n2 n4 bw mb md : Nat} {fin : PlSt} {q : Nat} {f : Fr} {st : List SI} {Q : Fr → AW → Prop} (hbd : RBr r) (hs : cSafe r = true) (hn2 : CB a n2 [.int .i64 (Int.ofNat r.head.kind), .str r.head.name, hv, u])
    (hI : MkI a T r u n2 n4 bw mb md fin q f w) (ih : ∀ n' f' w', n' < q → MkI a T r u n2 n4 bw mb md fin n' f' w' → WS tab (.code (.loop k_plan_Make_p2) :: .endB 0 :: st) f' w' Q)
    (out : ∀ s' f' w', MkJ a T r u n2 n4 bw mb md fin f' w' → popTo 0 s' = some st → WS tab (.code (.exit 0) :: s') f' w' Q) : WS tab (.code k_plan_Make_p2 :: .code (.loop k_plan_Make_p2) :: .endB 0 :: st) f w Q := by
  obtain ⟨s, ov, bv, So, Sb, M, D, k, ⟨f2, f4, f6⟩, hA, hsl, rfl, hfin, hk⟩ := hI
  have hlv := rdL_lenV hA.lits
  have hlo := hA.ord.lenV
  have ld3 : w.load n2 3 1 = some [u] := by rw [(hn2.frm hA.frm fun h => h).load]; rfl
  have lo : w.load bw 3 1 = some [ov] := by rw [hA.cell.load]; rfl
  have hbl := hbd.body
  by_cases hlt : s.1.length < r.body.length
  case neg =>
    have e : r.body.length - s.1.length = 0 := by omega
    rw [e] at hfin
    have hfin : s = fin := hfin
    subst hfin
    refine WS_runB 1000 (by simp only [go_sem, Nat.reduceAdd, Nat.reduceLT, Nat.reduceEqDiff, reduceIte, reduceCtorEq, Int.reduceLT, Int.reduceBEq, Int.reduceGE, Int.reduceEq, Int.reduceAdd, Nat.reduceLeDiff, k_plan_Make_p2, f2, f6, ld3, lo, hlv, hlo, hlt]; rfl) ?_
    exact out _ _ _ ⟨ov, bv, So, Sb, M, D, k, ⟨(by simp only [go_sem, eRun_exit, Nat.reduceAdd, Nat.reduceLT, Nat.reduceEqDiff, reduceIte, reduceCtorEq, Int.reduceLT, Int.reduceBEq, Int.reduceGE, Int.reduceEq, Int.reduceAdd, Nat.reduceLeDiff, f2] <;> rfl), (by simp only [go_sem, eRun_exit, Nat.reduceAdd, Nat.reduceLT, Nat.reduceEqDiff, reduceIte, reduceCtorEq, Int.reduceLT, Int.reduceBEq, Int.reduceGE, Int.reduceEq, Int.reduceAdd, Nat.reduceLeDiff, f4] <;> rfl), (by simp only [go_sem, eRun_exit, Nat.reduceAdd, Nat.reduceLT, Nat.reduceEqDiff, reduceIte, reduceCtorEq, Int.reduceLT, Int.reduceBEq, Int.reduceGE, Int.reduceEq, Int.reduceAdd, Nat.reduceLeDiff, f6] <;> rfl)⟩, hA⟩ rfl
  obtain ⟨q, hq⟩ : ∃ q, r.body.length - s.1.length = q + 1 := ⟨r.body.length - s.1.length - 1, by omega⟩
  rw [hq] at hfin
  refine WS_run 1000 (by simp only [go_sem, eRun_exit, Nat.reduceAdd, Nat.reduceLT, Nat.reduceEqDiff, reduceIte, reduceCtorEq, Int.reduceLT, Int.reduceBEq, Int.reduceGE, Int.reduceEq, Int.reduceAdd, Nat.reduceLeDiff, k_plan_Make_p2, f2, f6, ld3, lo, hlv, hlo, hlt]; rfl) ?_
  refine WS_call (by simp only [go_sem, eRun_exit, Nat.reduceAdd, Nat.reduceLT, Nat.reduceEqDiff, reduceIte, reduceCtorEq, Int.reduceLT, Int.reduceBEq, Int.reduceGE, Int.reduceEq, Int.reduceAdd, Nat.reduceLeDiff]) (by simp only [go_sem, eRun_exit, Nat.reduceAdd, Nat.reduceLT, Nat.reduceEqDiff, reduceIte, reduceCtorEq, Int.reduceLT, Int.reduceBEq, Int.reduceGE, Int.reduceEq, Int.reduceAdd, Nat.reduceLeDiff]; rfl) ?_
  refine best_ok C hA hbl hbd.args (exists_cand hs hA.inv hlt) fun i w2 hb g2 => ?_
  have hbf := best_find hb
  simp only [planRun, if_pos hlt, hbf] at hfin
  have hcand := of_decide_eq_true hb.1
  refine WS_run 1000 (by simp only [go_sem, eRun_exit, Nat.reduceAdd, Nat.reduceLT, Nat.reduceEqDiff, reduceIte, reduceCtorEq, Int.reduceLT, Int.reduceBEq, Int.reduceGE, Int.reduceEq, Int.reduceAdd, Nat.reduceLeDiff, f6]; rfl) ?_
  refine WS_call (by simp only [go_sem, eRun_exit, Nat.reduceAdd, Nat.reduceLT, Nat.reduceEqDiff, reduceIte, reduceCtorEq, Int.reduceLT, Int.reduceBEq, Int.reduceGE, Int.reduceEq, Int.reduceAdd, Nat.reduceLeDiff]) (by simp only [go_sem, eRun_exit, Nat.reduceAdd, Nat.reduceLT, Nat.reduceEqDiff, reduceIte, reduceCtorEq, Int.reduceLT, Int.reduceBEq, Int.reduceGE, Int.reduceEq, Int.reduceAdd, Nat.reduceLeDiff]; rfl) ?_
  refine take_ok C (hA.ext g2) hcand.1 hbd.args (by omega) (by omega) hcand.2.2 fun w3 ov3 bv3 So3 Sb3 M3 D3 hA3 => ?_
  have el : (takeP r.body s i).1.length = s.1.length + 1 := by simp [takeP]
  have hq2 : q = r.body.length - (takeP r.body s i).1.length := by rw [el]; omega
  have hq3 : (takeP r.body s i).1.length ≤ r.body.length := by rw [el]; omega
  refine WS_run 1000 (by simp only [go_sem, eRun_exit, Nat.reduceAdd, Nat.reduceLT, Nat.reduceEqDiff, reduceIte, reduceCtorEq, Int.reduceLT, Int.reduceBEq, Int.reduceGE, Int.reduceEq, Int.reduceAdd, Nat.reduceLeDiff]; rfl) ?_
  exact ih q _ _ (by omega) ⟨takeP r.body s i, ov3, bv3, So3, Sb3, M3, D3, k + 5, ⟨(by simp only [go_sem, eRun_exit, Nat.reduceAdd, Nat.reduceLT, Nat.reduceEqDiff, reduceIte, reduceCtorEq, Int.reduceLT, Int.reduceBEq, Int.reduceGE, Int.reduceEq, Int.reduceAdd, Nat.reduceLeDiff, f2] <;> rfl), (by simp only [go_sem, eRun_exit, Nat.reduceAdd, Nat.reduceLT, Nat.reduceEqDiff, reduceIte, reduceCtorEq, Int.reduceLT, Int.reduceBEq, Int.reduceGE, Int.reduceEq, Int.reduceAdd, Nat.reduceLeDiff, f4] <;> rfl), (by simp only [go_sem, eRun_exit, Nat.reduceAdd, Nat.reduceLT, Nat.reduceEqDiff, reduceIte, reduceCtorEq, Int.reduceLT, Int.reduceBEq, Int.reduceGE, Int.reduceEq, Int.reduceAdd, Nat.reduceLeDiff, f6] <;> rfl)⟩, hA3, hq3, hq2, hfin, by omega⟩
/-- Make. -/
theorem make_ok (C : Codes tab) {T : Nat → Prop} {a : AW} {xs : List V} {r : Rl} {first : Int} {K : V → AW → Prop} (hr : RlC T a r xs) (hbd : RBr r)
    (h1 : ∀ w, ¬ okPl r first → Frm (fun _ => False) a w → K (.tuple [.agg [.nilslice, .nilslice], .bool false]) w)
    (h2 : ∀ w ov bv So Sb, okPl r first → Bt So w ov 1 (planP r first).1.length (natsC (planP r first).1) → Bt Sb w bv 1 (planP r first).2.length (strsC (planP r first).2) → Frm (fun _ => False) a w → (∀ x, So x ∨ Sb x → a.next ≤ x ∧ x < w.next) → K (.tuple [.agg [ov, bv], .bool true]) w) :
    WF tab n_plan_Make [.agg xs, .int .i64 first] a K := by
  refine WF_of C.c_plan_Make rfl ?_
  have hone := hr.one
  have hr0 := hr
  obtain ⟨hv, u, rfl, hh, hu⟩ := hr
  have cb := fresh_cb a [V.int .i64 (Int.ofNat r.head.kind), .str r.head.name, hv, u]
  have ff := fresh_frm (S := fun _ => False) a [V.int .i64 (Int.ofNat r.head.kind), .str r.head.name, hv, u]
  have m1 : (a.fresh [V.int .i64 (Int.ofNat r.head.kind), .str r.head.name, hv, u]).next = a.next + 1 := rfl
  generalize hw1 : a.fresh [V.int .i64 (Int.ofNat r.head.kind), .str r.head.name, hv, u] = w1 at cb ff m1
  have cb4 := fresh_cb w1 [V.nilslice, V.nilslice]
  have ff4 := fresh_frm (S := fun _ => False) w1 [V.nilslice, V.nilslice]
  have m4 : (w1.fresh [V.nilslice, V.nilslice]).next = w1.next + 1 := rfl
  have cb1 := cb.frm ff4 fun h => h
  generalize hw4 : w1.fresh [V.nilslice, V.nilslice] = w4 at cb4 ff4 m4 cb1
  have ld0 : w4.load a.next 0 4 = some [V.int .i64 (Int.ofNat r.head.kind), .str r.head.name, hv, u] := cb1.all rfl
  have hlv := rdL_lenV hu
  have hbl := hbd.body
  refine WS_run 1000 (by simp only [go_sem, eRun_exit, Nat.reduceAdd, Nat.reduceLT, Nat.reduceEqDiff, reduceIte, reduceCtorEq, Int.reduceLT, Int.reduceBEq, Int.reduceGE, Int.reduceEq, Int.reduceAdd, Nat.reduceLeDiff, k_plan_Make, k_plan_Make_p5, hw1, hw4, ld0]; rfl) ?_
  refine WS_call (by simp only [go_sem, eRun_exit, Nat.reduceAdd, Nat.reduceLT, Nat.reduceEqDiff, reduceIte, reduceCtorEq, Int.reduceLT, Int.reduceBEq, Int.reduceGE, Int.reduceEq, Int.reduceAdd, Nat.reduceLeDiff]) (by simp only [go_sem, eRun_exit, Nat.reduceAdd, Nat.reduceLT, Nat.reduceEqDiff, reduceIte, reduceCtorEq, Int.reduceLT, Int.reduceBEq, Int.reduceGE, Int.reduceEq, Int.reduceAdd, Nat.reduceLeDiff]; rfl) ?_
  refine safe_ok C (hr0.frm (ff.tr ff4) fun _ _ h => h) hbd.big fun w2 g2 => ?_
  have hf2 := (ff.tr ff4).tr g2
  have cb2 := cb1.frm g2 fun h => h
  have cb42 := cb4.frm g2 fun h => h
  have ld3 : w2.load a.next 3 1 = some [u] := by rw [cb2.load]; rfl
  have m2 := g2.next
  have hu2 : RdL (LtC T) T w2 u 3 r.body := hu.frm (fun _ _ hl => hl.frm hf2 fun _ _ h => h) hf2 fun _ _ h => h
  -- failing
  have st0 := cb42.setAll (vs := [V.nilslice, V.nilslice]) rfl rfl
  have lf : (w2.put w1.next [V.nilslice, V.nilslice]).load w1.next 0 2 = some [V.nilslice, V.nilslice] := (put_cb cb42.lt).all rfl
  have ffail : Frm (fun _ => False) a (w2.put w1.next [V.nilslice, V.nilslice]) := hf2.out (by omega) rfl
  -- the work
  have g5 := mnew_frm (S := fun _ => False) w2
  have B5 : SM (w2.new (.map [] 0)) w2.next ([] : Ps) := MB.new w2
  have m5 : (w2.new (.map [] 0)).next = w2.next + 1 := rfl
  generalize hw5 : w2.new (.map [] 0) = w5 at g5 B5 m5
  have g6 := mnew_frm (S := fun _ => False) w5
  have B6 : IM (w5.new (.map [] 0)) w5.next ([] : List (Int × Int)) := MB.new w5
  have m6 : (w5.new (.map [] 0)).next = w5.next + 1 := rfl
  generalize hw6 : w5.new (.map [] 0) = w6 at g6 B6 m6
  have g7 := fresh_frm (S := fun _ => False) w6 [u, V.map w2.next, V.map w5.next, V.nilslice, V.nilslice]
  have c7 := fresh_cb w6 [u, V.map w2.next, V.map w5.next, V.nilslice, V.nilslice]
  have m7 : (w6.fresh [u, V.map w2.next, V.map w5.next, V.nilslice, V.nilslice]).next = w6.next + 1 := rfl
  generalize hw7 : w6.fresh [u, V.map w2.next, V.map w5.next, V.nilslice, V.nilslice] = w7 at g7 c7 m7
  have hA0 : WkS w2 w7 T r.body u w6.next w2.next w5.next ([], []) .nilslice .nilslice (fun _ => False) (fun _ => False) [] [] 0 :=
    ⟨(g5.tr g6).tr g7, hu2, c7, (B5.frm g6 fun h => h).frm g7 fun h => h, fun x => ⟨by simp [aget], fun c hc => by simp [aget] at hc⟩, B6.frm g7 fun h => h, fun j => by simp [aget], .nil, .nil, by omega, fun _ h => h.elim, fun _ h => h.elim, PlInv.nil _⟩
  have uc : u.cells = [u] := by
    obtain ⟨xss, hrd, _⟩ := hu
    rcases hrd.inv with ⟨rfl, _⟩ | ⟨_, _, _, rfl, _⟩ <;> rfl
  have ov1 : over [V.nilslice, V.nilmap, V.nilmap, V.nilslice, V.nilslice] 0 [u] = some [u, V.nilmap, V.nilmap, V.nilslice, V.nilslice] := rfl
  have ov2 : over [u, V.nilmap, V.nilmap, V.nilslice, V.nilslice] 1 [V.map w2.next] = some [u, V.map w2.next, V.nilmap, V.nilslice, V.nilslice] := rfl
  have ov3 : over [u, V.map w2.next, V.nilmap, V.nilslice, V.nilslice] 2 [V.map w5.next] = some [u, V.map w2.next, V.map w5.next, V.nilslice, V.nilslice] := rfl
  have loop : ∀ {fr : Fr} {w : AW} {ov bv : V} {So Sb : Nat → Prop} {M : Ps} {D : List (Int × Int)} {k : Nat}, okPl r first → MkF fr a.next w1.next w6.next → WkS w2 w T r.body u w6.next w2.next w5.next (startP r.body first) ov bv So Sb M D k → k ≤ 5 * (startP r.body first).1.length →
      WS tab (.code (.loop k_plan_Make_p2) :: .endB 0 :: [.code k_plan_Make_p3]) fr w fun fr' a => ∃ vs, resV fr' a k_plan_Make.results = some vs ∧ K (resOne vs) a := by
    intro fr w ov bv So Sb M D k hok hF hA hk
    have hsl := startP_len r.body first
    refine WS_loopJ (MkI w2 T r u a.next w1.next w6.next w2.next w5.next (planP r first)) (MkJ w2 T r u a.next w1.next w6.next w2.next w5.next (planP r first)) (fun q f w hI ih out => mk_step C hbd hok.1 cb2 hI ih out) ?_ (r.body.length - (startP r.body first).1.length)
      ⟨_, ov, bv, So, Sb, M, D, k, hF, hA, ?_, rfl, rfl, hk⟩
    · rintro f w ⟨ov, bv, So, Sb, M, D, k, ⟨f2, f4, f6⟩, hA⟩
      have l3 : w.load w6.next 3 2 = some [ov, bv] := by rw [hA.cell.load]; rfl
      have c4 := cb42.frm hA.frm fun h => h
      have hone : allOne [ov, bv] = true := by
        rw [allOne_iff]; intro x hx; simp at hx
        rcases hx with rfl | rfl
        · exact hA.ord.one.1
        · exact hA.bnd.one.1
      have st := c4.setAll (vs := [ov, bv]) rfl hone
      have ld : (w.put w1.next [ov, bv]).load w1.next 0 2 = some [ov, bv] := (put_cb c4.lt).all rfl
      have pf : Frm (fun x => x = w1.next) w (w.put w1.next [ov, bv]) := put_frm
      refine WS_run 1000 (by simp only [go_sem, eRun_exit, Nat.reduceAdd, Nat.reduceLT, Nat.reduceEqDiff, reduceIte, reduceCtorEq, Int.reduceLT, Int.reduceBEq, Int.reduceGE, Int.reduceEq, Int.reduceAdd, Nat.reduceLeDiff, k_plan_Make_p3, f4, f6, l3, st, List.length_cons, List.length_nil]; rfl) ?_
      refine WS_ret ⟨_, by simp only [go_sem, eRun_exit, Nat.reduceAdd, Nat.reduceLT, Nat.reduceEqDiff, reduceIte, reduceCtorEq, Int.reduceLT, Int.reduceBEq, Int.reduceGE, Int.reduceEq, Int.reduceAdd, Nat.reduceLeDiff, k_plan_Make, f4, ld]; rfl, ?_⟩
      have h1 := hf2.next
      have h3 := hA.frm.next
      refine h2 _ ov bv So Sb hok (hA.ord.frm pf fun x hx e => by have := (hA.sepO x hx).1; omega) (hA.bnd.frm pf fun x hx e => by have := (hA.sepB x hx).1; omega) ((hf2.tr hA.frm).out (by omega) rfl) ?_
      have hnx : (w.put w1.next [ov, bv]).next = w.next := rfl
      rintro x (hx | hx)
      · have := hA.sepO x hx; exact ⟨by omega, by omega⟩
      · have := hA.sepB x hx; exact ⟨by omega, by omega⟩
    · by_cases h0 : 0 ≤ first
      · have := hok.2.2.1; omega
      · simp [startP, h0]
  cases hs : cSafe r with
  | false =>
    have hno : ¬ okPl r first := fun h => by have h := h.1; rw [hs] at h; cases h
    refine WS_run 1000 (by simp only [go_sem, eRun_exit, Nat.reduceAdd, Nat.reduceLT, Nat.reduceEqDiff, reduceIte, reduceCtorEq, Int.reduceLT, Int.reduceBEq, Int.reduceGE, Int.reduceEq, Int.reduceAdd, Nat.reduceLeDiff, k_plan_Make_p0, evParts, fillV, st0, List.length_cons, List.length_nil]; rfl) ?_
    refine WS_ret ⟨_, by simp only [go_sem, eRun_exit, Nat.reduceAdd, Nat.reduceLT, Nat.reduceEqDiff, reduceIte, reduceCtorEq, Int.reduceLT, Int.reduceBEq, Int.reduceGE, Int.reduceEq, Int.reduceAdd, Nat.reduceLeDiff, k_plan_Make, lf]; rfl, ?_⟩
    exact h1 _ hno ffail
  | true =>
    by_cases hl : first < -1
    · have hno : ¬ okPl r first := fun h => by have := h.2.1; omega
      have d1 : decide (first < (-1 : Int)) = true := decide_eq_true hl
      refine WS_run 1000 (by simp only [go_sem, eRun_exit, Nat.reduceAdd, Nat.reduceLT, Nat.reduceEqDiff, reduceIte, reduceCtorEq, Int.reduceLT, Int.reduceBEq, Int.reduceGE, Int.reduceEq, Int.reduceAdd, Nat.reduceLeDiff, k_plan_Make_p0, d1, evParts, fillV, st0, List.length_cons, List.length_nil]; rfl) ?_
      refine WS_ret ⟨_, by simp only [go_sem, eRun_exit, Nat.reduceAdd, Nat.reduceLT, Nat.reduceEqDiff, reduceIte, reduceCtorEq, Int.reduceLT, Int.reduceBEq, Int.reduceGE, Int.reduceEq, Int.reduceAdd, Nat.reduceLeDiff, k_plan_Make, lf]; rfl, ?_⟩
      exact h1 _ hno ffail
    have d1 : decide (first < (-1 : Int)) = false := decide_eq_false hl
    by_cases hg : first < 0
    · have e : first = -1 := by omega
      subst e
      have d2 : decide ((-1 : Int) ≥ Int.ofNat r.body.length) = false := decide_eq_false (by have : Int.ofNat r.body.length = (r.body.length : Int) := rfl; omega)
      have hok : okPl r (-1) := ⟨hs, by omega, by omega, fun h => by omega⟩
      have e0 : startP r.body (-1) = ([], []) := rfl
      refine WS_run 1000 (by simp only [go_sem, eRun_exit, Nat.reduceAdd, Nat.reduceLT, Nat.reduceEqDiff, reduceIte, reduceCtorEq, Int.reduceLT, Int.reduceBEq, Int.reduceGE, Int.reduceEq, Int.reduceAdd, Nat.reduceLeDiff, k_plan_Make_p4, ld3, hlv, d2, evParts, fillV, uc, cells_map, ov1, ov2, ov3, hw5, hw6, hw7, List.length_cons, List.length_nil]; rfl) ?_
      exact loop hok ⟨(by simp only [go_sem, eRun_exit, Nat.reduceAdd, Nat.reduceLT, Nat.reduceEqDiff, reduceIte, reduceCtorEq, Int.reduceLT, Int.reduceBEq, Int.reduceGE, Int.reduceEq, Int.reduceAdd, Nat.reduceLeDiff] <;> rfl), (by simp only [go_sem, eRun_exit, Nat.reduceAdd, Nat.reduceLT, Nat.reduceEqDiff, reduceIte, reduceCtorEq, Int.reduceLT, Int.reduceBEq, Int.reduceGE, Int.reduceEq, Int.reduceAdd, Nat.reduceLeDiff] <;> rfl), (by simp only [go_sem, eRun_exit, Nat.reduceAdd, Nat.reduceLT, Nat.reduceEqDiff, reduceIte, reduceCtorEq, Int.reduceLT, Int.reduceBEq, Int.reduceGE, Int.reduceEq, Int.reduceAdd, Nat.reduceLeDiff] <;> rfl)⟩ (e0 ▸ hA0) (by omega)
    · obtain ⟨i, rfl⟩ : ∃ i : Nat, first = Int.ofNat i := ⟨first.toNat, by have : Int.ofNat first.toNat = (first.toNat : Int) := rfl; omega⟩
      have hi0 : (Int.ofNat i).toNat = i := rfl
      have ei : Int.ofNat i = (i : Int) := rfl
      by_cases hge : r.body.length ≤ i
      · have hno : ¬ okPl r (Int.ofNat i) := fun h => by have := h.2.2.1; omega
        refine WS_run 1000 (by simp only [go_sem, eRun_exit, Nat.reduceAdd, Nat.reduceLT, Nat.reduceEqDiff, reduceIte, reduceCtorEq, Int.reduceLT, Int.reduceBEq, Int.reduceGE, Int.reduceEq, Int.reduceAdd, Nat.reduceLeDiff, k_plan_Make_p0, d1, ld3, hlv, hge, evParts, fillV, st0, List.length_cons, List.length_nil]; rfl) ?_
        refine WS_ret ⟨_, by simp only [go_sem, eRun_exit, Nat.reduceAdd, Nat.reduceLT, Nat.reduceEqDiff, reduceIte, reduceCtorEq, Int.reduceLT, Int.reduceBEq, Int.reduceGE, Int.reduceEq, Int.reduceAdd, Nat.reduceLeDiff, k_plan_Make, lf]; rfl, ?_⟩
        exact h1 _ hno ffail
      have hlt : i < r.body.length := by omega
      obtain ⟨t, ht⟩ : ∃ t, r.body[i]? = some t := ⟨_, List.getElem?_eq_getElem hlt⟩
      have hla : litAt r.body i = t := litAt_some ht
      obtain ⟨b, o, c, v, rfl, _, _, _, a1, _, _, hrv⟩ := lits_at hu2 ht
      by_cases hk : t.kind = 1
      case neg =>
        have hno : ¬ okPl r (Int.ofNat i) := fun h => hk (by have := h.2.2.2 (by omega); rw [hi0, hla] at this; exact this)
        refine WS_run 1000 (by simp only [go_sem, eRun_exit, Nat.reduceAdd, Nat.reduceLT, Nat.reduceEqDiff, reduceIte, reduceCtorEq, Int.reduceLT, Int.reduceBEq, Int.reduceGE, Int.reduceEq, Int.reduceAdd, Nat.reduceLeDiff, k_plan_Make_p0, d1, ld3, hlv, hge, hlt, a1, hk, Nat.zero_le, evParts, fillV, st0, List.length_cons, List.length_nil]; rfl) ?_
        refine WS_ret ⟨_, by simp only [go_sem, eRun_exit, Nat.reduceAdd, Nat.reduceLT, Nat.reduceEqDiff, reduceIte, reduceCtorEq, Int.reduceLT, Int.reduceBEq, Int.reduceGE, Int.reduceEq, Int.reduceAdd, Nat.reduceLeDiff, k_plan_Make, lf]; rfl, ?_⟩
        exact h1 _ hno ffail
      have hok : okPl r (Int.ofNat i) := ⟨hs, by omega, by omega, fun _ => by rw [hi0, hla]; exact hk⟩
      have e0 : startP r.body (Int.ofNat i) = takeP r.body ([], []) i := by rw [startP, if_pos (by omega), hi0]
      rw [hk] at a1
      refine WS_run 1000 (by simp only [go_sem, eRun_exit, Nat.reduceAdd, Nat.reduceLT, Nat.reduceEqDiff, reduceIte, reduceCtorEq, Int.reduceLT, Int.reduceBEq, Int.reduceGE, Int.reduceEq, Int.reduceAdd, Nat.reduceLeDiff, k_plan_Make_p4, k_plan_Make_p1, d1, ld3, hlv, hge, hlt, a1, Nat.zero_le, evParts, fillV, uc, cells_map, ov1, ov2, ov3, hw5, hw6, hw7, List.length_cons, List.length_nil]; rfl) ?_
      refine WS_call (by simp only [go_sem, eRun_exit, Nat.reduceAdd, Nat.reduceLT, Nat.reduceEqDiff, reduceIte, reduceCtorEq, Int.reduceLT, Int.reduceBEq, Int.reduceGE, Int.reduceEq, Int.reduceAdd, Nat.reduceLeDiff]) (by simp only [go_sem, eRun_exit, Nat.reduceAdd, Nat.reduceLT, Nat.reduceEqDiff, reduceIte, reduceCtorEq, Int.reduceLT, Int.reduceBEq, Int.reduceGE, Int.reduceEq, Int.reduceAdd, Nat.reduceLeDiff]; rfl) ?_
      refine take_ok C hA0 hlt hbd.args (by simp) (by omega) (.inl (by rw [hla]; exact hk)) fun w8 ov8 bv8 So8 Sb8 M8 D8 hA8 => ?_
      refine WS_run 1000 (by simp only [go_sem, eRun_exit, Nat.reduceAdd, Nat.reduceLT, Nat.reduceEqDiff, reduceIte, reduceCtorEq, Int.reduceLT, Int.reduceBEq, Int.reduceGE, Int.reduceEq, Int.reduceAdd, Nat.reduceLeDiff]; rfl) ?_
      exact loop hok ⟨(by simp only [go_sem, eRun_exit, Nat.reduceAdd, Nat.reduceLT, Nat.reduceEqDiff, reduceIte, reduceCtorEq, Int.reduceLT, Int.reduceBEq, Int.reduceGE, Int.reduceEq, Int.reduceAdd, Nat.reduceLeDiff] <;> rfl), (by simp only [go_sem, eRun_exit, Nat.reduceAdd, Nat.reduceLT, Nat.reduceEqDiff, reduceIte, reduceCtorEq, Int.reduceLT, Int.reduceBEq, Int.reduceGE, Int.reduceEq, Int.reduceAdd, Nat.reduceLeDiff] <;> rfl), (by simp only [go_sem, eRun_exit, Nat.reduceAdd, Nat.reduceLT, Nat.reduceEqDiff, reduceIte, reduceCtorEq, Int.reduceLT, Int.reduceBEq, Int.reduceGE, Int.reduceEq, Int.reduceAdd, Nat.reduceLeDiff] <;> rfl)⟩ (e0 ▸ hA8) (by rw [e0]; simp [takeP])
end Go.Proofs.Ytjidefnbancmfaa

/- PlanAll: one comparison. -/
set_option linter.unusedVariables false
set_option maxRecDepth 10000
set_option linter.unusedSimpArgs false
namespace Go.Proofs.Ytjidefnbancmfaa
open Go.AE Delphi
variable {tab : Tab}
/-- equal slices of numbers. -/
structure PaF (f : Fr) (rv : V) (first : Int) (i : Nat) (kk : Int) : Prop where
  f1 : f.get 1 = some (.int .i64 first)
  f6 : f.get 6 = some rv
  f7 : f.get 7 = some (.int .i64 (Int.ofNat i))
  f8 : f.get 8 = some (.int .i64 kk)
def EqI (rv : V) (first : Int) (i : Nat) (kk : Int) (n9 : Nat) (v11 v12 : V) (n : Nat) (w0 : AW) (q : Nat) (f : Fr) (w : AW) : Prop :=
  ∃ j, PaF f rv first i kk ∧ f.get 9 = some (.ptr n9 0) ∧ f.get 11 = some v11 ∧ f.get 12 = some v12 ∧ f.get 14 = some (.int .i64 (Int.ofNat j)) ∧ j ≤ n ∧ q = n - j ∧ w = w0
def EqJ (rv : V) (first : Int) (i : Nat) (kk : Int) (n9 : Nat) (v11 v12 : V) (n : Nat) (w0 : AW) (q : Nat) (f : Fr) (w : AW) : Prop :=
  ∃ j, PaF f rv first i kk ∧ f.get 9 = some (.ptr n9 0) ∧ f.get 11 = some v11 ∧ f.get 12 = some v12 ∧ f.get 15 = some (.int .i64 (Int.ofNat j)) ∧ j ≤ n ∧ q = n - j ∧ w = w0
/-- both plans, compared. -/
theorem pa_cmp (C : Codes tab) {w : AW} {rv ov1 bv1 ov2 bv2 : V} {first kk : Int} {i n9 : Nat} {s : PlSt} {S1 S2 S3 S4 : Nat → Prop} {b : Bool} {f : Fr} {st : List SI} {Q : Fr → AW → Prop} (hF : PaF f rv first i kk) (f9 : f.get 9 = some (.ptr n9 0)) (f10 : f.get 10 = some (.bool b)) (f11 : f.get 11 = some ov2) (f12 : f.get 12 = some bv2) (f13 : f.get 13 = some (.bool b))
    (hc : CB w n9 [ov1, bv1]) (h1 : Bt S1 w ov1 1 s.1.length (natsC s.1)) (h2 : Bt S2 w bv1 1 s.2.length (strsC s.2)) (h3 : Bt S3 w ov2 1 s.1.length (natsC s.1)) (h4 : Bt S4 w bv2 1 s.2.length (strsC s.2)) (hl1 : s.1.length ≤ 1000) (hl2 : s.2.length ≤ 1000)
    (h : ∀ f', PaF f' rv first i kk → WS tab st f' w Q) : WS tab (.code k_law12_PlanAll_p8 :: st) f w Q := by
  obtain ⟨f1, f6, f7, f8⟩ := hF
  have l0 : w.load n9 0 1 = some [ov1] := hc.load 0 1
  have l1 : w.load n9 1 1 = some [bv1] := hc.load 1 1
  have e1 := h1.lenV
  have e2 := h2.lenV
  have e3 := h3.lenV
  have e4 := h4.lenV
  have hb : (match b, b with | true, true => true | false, false => true | _, _ => false) = true := by cases b <;> rfl
  have go : ∀ {fr : Fr}, PaF fr rv first i kk → fr.get 9 = some (.ptr n9 0) → fr.get 11 = some ov2 → fr.get 12 = some bv2 → fr.get 14 = some (.int .i64 (Int.ofNat 0)) → WS tab (.code (.loop k_law12_PlanAll_p4) :: .endB 4 :: .code (.seq (.region [⟨some 15, none, .mov (.const (.int .i64 0))⟩]) (.block 6 (.loop k_law12_PlanAll_p7))) :: st) fr w Q := by
    intro fr hF f9 f11 f12 f14
    refine WS_loopJ (EqI rv first i kk n9 ov2 bv2 s.1.length w) (fun f w' => PaF f rv first i kk ∧ f.get 9 = some (.ptr n9 0) ∧ f.get 11 = some ov2 ∧ f.get 12 = some bv2 ∧ w' = w) ?_ ?_ s.1.length ⟨0, hF, f9, f11, f12, f14, by omega, rfl, rfl⟩
    · rintro q f w' ⟨j, ⟨f1, f6, f7, f8⟩, f9, f11, f12, f14, hj, rfl, rfl⟩ ih exit
      by_cases hlt : j < s.1.length
      case neg =>
        refine WS_runB 1000 (by simp only [go_sem, Nat.reduceAdd, Nat.reduceLT, Nat.reduceEqDiff, reduceIte, reduceCtorEq, Nat.reduceLeDiff, k_law12_PlanAll_p4, f11, f14, e3, hlt]; rfl) ?_
        exact exit _ _ _ ⟨⟨(by simp only [go_sem, eRun_exit, Nat.reduceAdd, Nat.reduceLT, Nat.reduceEqDiff, reduceIte, reduceCtorEq, Nat.reduceLeDiff, f1] <;> rfl), (by simp only [go_sem, eRun_exit, Nat.reduceAdd, Nat.reduceLT, Nat.reduceEqDiff, reduceIte, reduceCtorEq, Nat.reduceLeDiff, f6] <;> rfl), (by simp only [go_sem, eRun_exit, Nat.reduceAdd, Nat.reduceLT, Nat.reduceEqDiff, reduceIte, reduceCtorEq, Nat.reduceLeDiff, f7] <;> rfl), (by simp only [go_sem, eRun_exit, Nat.reduceAdd, Nat.reduceLT, Nat.reduceEqDiff, reduceIte, reduceCtorEq, Nat.reduceLeDiff, f8] <;> rfl)⟩, (by simp only [go_sem, eRun_exit, Nat.reduceAdd, Nat.reduceLT, Nat.reduceEqDiff, reduceIte, reduceCtorEq, Nat.reduceLeDiff, f9] <;> rfl), (by simp only [go_sem, eRun_exit, Nat.reduceAdd, Nat.reduceLT, Nat.reduceEqDiff, reduceIte, reduceCtorEq, Nat.reduceLeDiff, f11] <;> rfl), (by simp only [go_sem, eRun_exit, Nat.reduceAdd, Nat.reduceLT, Nat.reduceEqDiff, reduceIte, reduceCtorEq, Nat.reduceLeDiff, f12] <;> rfl), rfl⟩ rfl
      obtain ⟨x, hx⟩ : ∃ x, s.1[j]? = some x := ⟨_, List.getElem?_eq_getElem hlt⟩
      have hwr : IntKind.wrap .i64 (Int.ofNat j + 1) = Int.ofNat (j + 1) := wrap_succ (by omega)
      rcases h1.rd.inv with ⟨_, q2, _⟩ | ⟨b1, o1, c1, rfl, hB1⟩
      · omega
      rcases h3.rd.inv with ⟨_, q2, _⟩ | ⟨b3, o3, c3, rfl, hB3⟩
      · omega
      have a1 : w'.load b1 (o1 + j) 1 = some [.int .i64 (Int.ofNat x)] := hB1.cell (by omega) (by rw [natsC, List.getElem?_map, hx]; rfl)
      have a3 : w'.load b3 (o3 + j) 1 = some [.int .i64 (Int.ofNat x)] := hB3.cell (by omega) (by rw [natsC, List.getElem?_map, hx]; rfl)
      refine WS_run 1000 (by simp only [go_sem, eRun_exit, Nat.reduceAdd, Nat.reduceLT, Nat.reduceEqDiff, reduceIte, reduceCtorEq, Nat.reduceLeDiff, k_law12_PlanAll_p4, k_law12_PlanAll_p3, f9, f11, f14, l0, e3, hlt, a1, a3, Nat.mul_one, hwr]; rfl) ?_
      exact ih _ _ _ (by omega) ⟨j + 1, ⟨(by simp only [go_sem, eRun_exit, Nat.reduceAdd, Nat.reduceLT, Nat.reduceEqDiff, reduceIte, reduceCtorEq, Nat.reduceLeDiff, f1] <;> rfl), (by simp only [go_sem, eRun_exit, Nat.reduceAdd, Nat.reduceLT, Nat.reduceEqDiff, reduceIte, reduceCtorEq, Nat.reduceLeDiff, f6] <;> rfl), (by simp only [go_sem, eRun_exit, Nat.reduceAdd, Nat.reduceLT, Nat.reduceEqDiff, reduceIte, reduceCtorEq, Nat.reduceLeDiff, f7] <;> rfl), (by simp only [go_sem, eRun_exit, Nat.reduceAdd, Nat.reduceLT, Nat.reduceEqDiff, reduceIte, reduceCtorEq, Nat.reduceLeDiff, f8] <;> rfl)⟩, (by simp only [go_sem, eRun_exit, Nat.reduceAdd, Nat.reduceLT, Nat.reduceEqDiff, reduceIte, reduceCtorEq, Nat.reduceLeDiff, f9] <;> rfl), (by simp only [go_sem, eRun_exit, Nat.reduceAdd, Nat.reduceLT, Nat.reduceEqDiff, reduceIte, reduceCtorEq, Nat.reduceLeDiff, f11] <;> rfl), (by simp only [go_sem, eRun_exit, Nat.reduceAdd, Nat.reduceLT, Nat.reduceEqDiff, reduceIte, reduceCtorEq, Nat.reduceLeDiff, f12] <;> rfl), (by simp only [go_sem, eRun_exit, Nat.reduceAdd, Nat.reduceLT, Nat.reduceEqDiff, reduceIte, reduceCtorEq, Nat.reduceLeDiff] <;> rfl), by omega, rfl, rfl⟩
    · rintro f w' ⟨⟨f1, f6, f7, f8⟩, f9, f11, f12, rfl⟩
      refine WS_runB 5 (by simp only [go_sem, eRun_exit, Nat.reduceAdd, Nat.reduceLT, Nat.reduceEqDiff, reduceIte, reduceCtorEq, Nat.reduceLeDiff]; rfl) ?_
      refine WS_loopJ (EqJ rv first i kk n9 ov2 bv2 s.2.length w') (fun f w2 => PaF f rv first i kk ∧ w2 = w') ?_ ?_ s.2.length ⟨0, ⟨(by simp only [go_sem, eRun_exit, Nat.reduceAdd, Nat.reduceLT, Nat.reduceEqDiff, reduceIte, reduceCtorEq, Nat.reduceLeDiff, f1] <;> rfl), (by simp only [go_sem, eRun_exit, Nat.reduceAdd, Nat.reduceLT, Nat.reduceEqDiff, reduceIte, reduceCtorEq, Nat.reduceLeDiff, f6] <;> rfl), (by simp only [go_sem, eRun_exit, Nat.reduceAdd, Nat.reduceLT, Nat.reduceEqDiff, reduceIte, reduceCtorEq, Nat.reduceLeDiff, f7] <;> rfl), (by simp only [go_sem, eRun_exit, Nat.reduceAdd, Nat.reduceLT, Nat.reduceEqDiff, reduceIte, reduceCtorEq, Nat.reduceLeDiff, f8] <;> rfl)⟩, (by simp only [go_sem, eRun_exit, Nat.reduceAdd, Nat.reduceLT, Nat.reduceEqDiff, reduceIte, reduceCtorEq, Nat.reduceLeDiff, f9] <;> rfl), (by simp only [go_sem, eRun_exit, Nat.reduceAdd, Nat.reduceLT, Nat.reduceEqDiff, reduceIte, reduceCtorEq, Nat.reduceLeDiff, f11] <;> rfl), (by simp only [go_sem, eRun_exit, Nat.reduceAdd, Nat.reduceLT, Nat.reduceEqDiff, reduceIte, reduceCtorEq, Nat.reduceLeDiff, f12] <;> rfl), (by simp only [go_sem, eRun_exit, Nat.reduceAdd, Nat.reduceLT, Nat.reduceEqDiff, reduceIte, reduceCtorEq, Nat.reduceLeDiff] <;> rfl), by omega, rfl, rfl⟩
      · rintro q f w' ⟨j, ⟨f1, f6, f7, f8⟩, f9, f11, f12, f15, hj, rfl, rfl⟩ ih exit
        by_cases hlt : j < s.2.length
        case neg =>
          refine WS_runB 1000 (by simp only [go_sem, Nat.reduceAdd, Nat.reduceLT, Nat.reduceEqDiff, reduceIte, reduceCtorEq, Nat.reduceLeDiff, k_law12_PlanAll_p7, f12, f15, e4, hlt]; rfl) ?_
          exact exit _ _ _ ⟨⟨(by simp only [go_sem, eRun_exit, Nat.reduceAdd, Nat.reduceLT, Nat.reduceEqDiff, reduceIte, reduceCtorEq, Nat.reduceLeDiff, f1] <;> rfl), (by simp only [go_sem, eRun_exit, Nat.reduceAdd, Nat.reduceLT, Nat.reduceEqDiff, reduceIte, reduceCtorEq, Nat.reduceLeDiff, f6] <;> rfl), (by simp only [go_sem, eRun_exit, Nat.reduceAdd, Nat.reduceLT, Nat.reduceEqDiff, reduceIte, reduceCtorEq, Nat.reduceLeDiff, f7] <;> rfl), (by simp only [go_sem, eRun_exit, Nat.reduceAdd, Nat.reduceLT, Nat.reduceEqDiff, reduceIte, reduceCtorEq, Nat.reduceLeDiff, f8] <;> rfl)⟩, rfl⟩ rfl
        obtain ⟨x, hx⟩ : ∃ x, s.2[j]? = some x := ⟨_, List.getElem?_eq_getElem hlt⟩
        have hwr : IntKind.wrap .i64 (Int.ofNat j + 1) = Int.ofNat (j + 1) := wrap_succ (by omega)
        rcases h2.rd.inv with ⟨_, q2, _⟩ | ⟨b1, o1, c1, rfl, hB1⟩
        · omega
        rcases h4.rd.inv with ⟨_, q2, _⟩ | ⟨b3, o3, c3, rfl, hB3⟩
        · omega
        have a1 : w'.load b1 (o1 + j) 1 = some [.str x] := hB1.cell (by omega) (by rw [strsC, List.getElem?_map, hx]; rfl)
        have a3 : w'.load b3 (o3 + j) 1 = some [.str x] := hB3.cell (by omega) (by rw [strsC, List.getElem?_map, hx]; rfl)
        have es : eqL x x = true := eqL_iff.2 rfl
        refine WS_run 1000 (by simp only [go_sem, eRun_exit, Nat.reduceAdd, Nat.reduceLT, Nat.reduceEqDiff, reduceIte, reduceCtorEq, Nat.reduceLeDiff, k_law12_PlanAll_p7, k_law12_PlanAll_p6, f9, f12, f15, l1, e4, hlt, a1, a3, Nat.mul_one, strS, es, hwr]; rfl) ?_
        exact ih _ _ _ (by omega) ⟨j + 1, ⟨(by simp only [go_sem, eRun_exit, Nat.reduceAdd, Nat.reduceLT, Nat.reduceEqDiff, reduceIte, reduceCtorEq, Nat.reduceLeDiff, f1] <;> rfl), (by simp only [go_sem, eRun_exit, Nat.reduceAdd, Nat.reduceLT, Nat.reduceEqDiff, reduceIte, reduceCtorEq, Nat.reduceLeDiff, f6] <;> rfl), (by simp only [go_sem, eRun_exit, Nat.reduceAdd, Nat.reduceLT, Nat.reduceEqDiff, reduceIte, reduceCtorEq, Nat.reduceLeDiff, f7] <;> rfl), (by simp only [go_sem, eRun_exit, Nat.reduceAdd, Nat.reduceLT, Nat.reduceEqDiff, reduceIte, reduceCtorEq, Nat.reduceLeDiff, f8] <;> rfl)⟩, (by simp only [go_sem, eRun_exit, Nat.reduceAdd, Nat.reduceLT, Nat.reduceEqDiff, reduceIte, reduceCtorEq, Nat.reduceLeDiff, f9] <;> rfl), (by simp only [go_sem, eRun_exit, Nat.reduceAdd, Nat.reduceLT, Nat.reduceEqDiff, reduceIte, reduceCtorEq, Nat.reduceLeDiff, f11] <;> rfl), (by simp only [go_sem, eRun_exit, Nat.reduceAdd, Nat.reduceLT, Nat.reduceEqDiff, reduceIte, reduceCtorEq, Nat.reduceLeDiff, f12] <;> rfl), (by simp only [go_sem, eRun_exit, Nat.reduceAdd, Nat.reduceLT, Nat.reduceEqDiff, reduceIte, reduceCtorEq, Nat.reduceLeDiff] <;> rfl), by omega, rfl, rfl⟩
      · rintro f w2 ⟨hF, rfl⟩
        exact h f hF
  cases b with
  | true =>
    refine WS_runB 31 (by simp only [go_sem, eRun_exit, Nat.reduceAdd, Nat.reduceLT, Nat.reduceEqDiff, reduceIte, reduceCtorEq, Nat.reduceLeDiff, k_law12_PlanAll_p8, f9, f10, f11, f12, f13, l0, l1, e1, e2, e3, e4, eqV]; rfl) ?_
    exact go ⟨(by simp only [go_sem, eRun_exit, Nat.reduceAdd, Nat.reduceLT, Nat.reduceEqDiff, reduceIte, reduceCtorEq, Nat.reduceLeDiff, f1] <;> rfl), (by simp only [go_sem, eRun_exit, Nat.reduceAdd, Nat.reduceLT, Nat.reduceEqDiff, reduceIte, reduceCtorEq, Nat.reduceLeDiff, f6] <;> rfl), (by simp only [go_sem, eRun_exit, Nat.reduceAdd, Nat.reduceLT, Nat.reduceEqDiff, reduceIte, reduceCtorEq, Nat.reduceLeDiff, f7] <;> rfl), (by simp only [go_sem, eRun_exit, Nat.reduceAdd, Nat.reduceLT, Nat.reduceEqDiff, reduceIte, reduceCtorEq, Nat.reduceLeDiff, f8] <;> rfl)⟩ (by simp only [go_sem, eRun_exit, Nat.reduceAdd, Nat.reduceLT, Nat.reduceEqDiff, reduceIte, reduceCtorEq, Nat.reduceLeDiff, f9] <;> rfl) (by simp only [go_sem, eRun_exit, Nat.reduceAdd, Nat.reduceLT, Nat.reduceEqDiff, reduceIte, reduceCtorEq, Nat.reduceLeDiff, f11] <;> rfl) (by simp only [go_sem, eRun_exit, Nat.reduceAdd, Nat.reduceLT, Nat.reduceEqDiff, reduceIte, reduceCtorEq, Nat.reduceLeDiff, f12] <;> rfl) (by simp only [go_sem, eRun_exit, Nat.reduceAdd, Nat.reduceLT, Nat.reduceEqDiff, reduceIte, reduceCtorEq, Nat.reduceLeDiff] <;> rfl)
  | false =>
    refine WS_runB 31 (by simp only [go_sem, eRun_exit, Nat.reduceAdd, Nat.reduceLT, Nat.reduceEqDiff, reduceIte, reduceCtorEq, Nat.reduceLeDiff, k_law12_PlanAll_p8, f9, f10, f11, f12, f13, l0, l1, e1, e2, e3, e4, eqV]; rfl) ?_
    exact go ⟨(by simp only [go_sem, eRun_exit, Nat.reduceAdd, Nat.reduceLT, Nat.reduceEqDiff, reduceIte, reduceCtorEq, Nat.reduceLeDiff, f1] <;> rfl), (by simp only [go_sem, eRun_exit, Nat.reduceAdd, Nat.reduceLT, Nat.reduceEqDiff, reduceIte, reduceCtorEq, Nat.reduceLeDiff, f6] <;> rfl), (by simp only [go_sem, eRun_exit, Nat.reduceAdd, Nat.reduceLT, Nat.reduceEqDiff, reduceIte, reduceCtorEq, Nat.reduceLeDiff, f7] <;> rfl), (by simp only [go_sem, eRun_exit, Nat.reduceAdd, Nat.reduceLT, Nat.reduceEqDiff, reduceIte, reduceCtorEq, Nat.reduceLeDiff, f8] <;> rfl)⟩ (by simp only [go_sem, eRun_exit, Nat.reduceAdd, Nat.reduceLT, Nat.reduceEqDiff, reduceIte, reduceCtorEq, Nat.reduceLeDiff, f9] <;> rfl) (by simp only [go_sem, eRun_exit, Nat.reduceAdd, Nat.reduceLT, Nat.reduceEqDiff, reduceIte, reduceCtorEq, Nat.reduceLeDiff, f11] <;> rfl) (by simp only [go_sem, eRun_exit, Nat.reduceAdd, Nat.reduceLT, Nat.reduceEqDiff, reduceIte, reduceCtorEq, Nat.reduceLeDiff, f12] <;> rfl) (by simp only [go_sem, eRun_exit, Nat.reduceAdd, Nat.reduceLT, Nat.reduceEqDiff, reduceIte, reduceCtorEq, Nat.reduceLeDiff] <;> rfl)
end Go.Proofs.Ytjidefnbancmfaa

/- PlanAll: the law. -/
set_option linter.unusedVariables false
set_option maxRecDepth 10000
set_option linter.unusedSimpArgs false
namespace Go.Proofs.Ytjidefnbancmfaa
open Go.AE Delphi
variable {tab : Tab}
def kOf (m : Nat) : Int := (m : Int) - 2
/-- both plans of a rule, at one place. -/
theorem pa_pair (C : Codes tab) {T : Nat → Prop} {w0 w : AW} {rv : V} {rs : List Rl} {r : Rl} {first kk : Int} {i : Nat} {f : Fr} {st : List SI} {Q : Fr → AW → Prop} (hr : RdL (RlC T) T w0 rv 4 rs) (hbr : ∀ r ∈ rs, RBr r) (hi : rs[i]? = some r) (hf : Frm (fun _ => False) w0 w) (hF : PaF f rv first i kk)
    (h : ∀ f' w', PaF f' rv first i kk → Frm (fun _ => False) w0 w' → WS tab st f' w' Q) : WS tab (.code k_law12_PlanAll_p10 :: st) f w Q := by
  obtain ⟨f1, f6, f7, f8⟩ := hF
  have hb := hbr r (List.mem_of_getElem? hi)
  have hlt : i < rs.length := (List.getElem?_eq_some_iff.1 hi).1
  obtain ⟨b, o, c, xs, rfl, hxs, a4, _⟩ := rls_at2 hr hf hi
  -- the second plan, and the comparison
  have second : ∀ {fr : Fr} {w' : AW} {ov1 bv1 : V} {S1 S2 : Nat → Prop} {s : PlSt} {ok : Bool} {n9 : Nat}, PaF fr (.slice b o rs.length c) first i kk → fr.get 9 = some (.ptr n9 0) → fr.get 10 = some (.bool ok) → Frm (fun _ => False) w0 w' → CB w' n9 [ov1, bv1] → Bt S1 w' ov1 1 s.1.length (natsC s.1) → Bt S2 w' bv1 1 s.2.length (strsC s.2) →
      ((ok = false ∧ ¬ okPl r kk ∧ s = ([], [])) ∨ (ok = true ∧ okPl r kk ∧ s = planP r kk)) → WS tab (.code k_law12_PlanAll_p9 :: st) fr w' Q := by
    rintro fr w' ov1 bv1 S1 S2 s ok n9 ⟨f1, f6, f7, f8⟩ f9 f10 hf' hc h1 h2 hcase
    obtain ⟨b', o', c', xs', e, hxs', a4', _⟩ := rls_at2 hr hf' hi
    cases e
    refine WS_run 1000 (by simp only [go_sem, eRun_exit, Nat.reduceAdd, Nat.reduceLT, Nat.reduceEqDiff, reduceIte, reduceCtorEq, Nat.reduceLeDiff, k_law12_PlanAll_p9, f6, f7, f8, hlt, a4']; rfl) ?_
    refine WS_call (by simp only [go_sem, eRun_exit, Nat.reduceAdd, Nat.reduceLT, Nat.reduceEqDiff, reduceIte, reduceCtorEq, Nat.reduceLeDiff]) (by simp only [go_sem, eRun_exit, Nat.reduceAdd, Nat.reduceLT, Nat.reduceEqDiff, reduceIte, reduceCtorEq, Nat.reduceLeDiff]; rfl) ?_
    refine rplan_ok C (hxs'.frm hf' fun _ _ h => h) hb (fun w2 hno g2 => ?_) (fun w2 ov2 bv2 So Sb hok q1 q2 g2 _ => ?_)
    · rcases hcase with ⟨rfl, _, rfl⟩ | ⟨_, hok, _⟩
      · refine WS_runB 11 (by simp only [go_sem, eRun_exit, Nat.reduceAdd, Nat.reduceLT, Nat.reduceEqDiff, reduceIte, reduceCtorEq, Nat.reduceLeDiff]; rfl) ?_
        refine pa_cmp C (s := ([], [])) (kk := kk) (first := first) (i := i) (rv := .slice b o rs.length c) (n9 := n9) (b := false) ⟨(by simp only [go_sem, eRun_exit, Nat.reduceAdd, Nat.reduceLT, Nat.reduceEqDiff, reduceIte, reduceCtorEq, Nat.reduceLeDiff, f1] <;> rfl), (by simp only [go_sem, eRun_exit, Nat.reduceAdd, Nat.reduceLT, Nat.reduceEqDiff, reduceIte, reduceCtorEq, Nat.reduceLeDiff, f6] <;> rfl), (by simp only [go_sem, eRun_exit, Nat.reduceAdd, Nat.reduceLT, Nat.reduceEqDiff, reduceIte, reduceCtorEq, Nat.reduceLeDiff, f7] <;> rfl), (by simp only [go_sem, eRun_exit, Nat.reduceAdd, Nat.reduceLT, Nat.reduceEqDiff, reduceIte, reduceCtorEq, Nat.reduceLeDiff, f8] <;> rfl)⟩ (by simp only [go_sem, eRun_exit, Nat.reduceAdd, Nat.reduceLT, Nat.reduceEqDiff, reduceIte, reduceCtorEq, Nat.reduceLeDiff, f9] <;> rfl) (by simp only [go_sem, eRun_exit, Nat.reduceAdd, Nat.reduceLT, Nat.reduceEqDiff, reduceIte, reduceCtorEq, Nat.reduceLeDiff, f10] <;> rfl) (by simp only [go_sem, eRun_exit, Nat.reduceAdd, Nat.reduceLT, Nat.reduceEqDiff, reduceIte, reduceCtorEq, Nat.reduceLeDiff] <;> rfl) (by simp only [go_sem, eRun_exit, Nat.reduceAdd, Nat.reduceLT, Nat.reduceEqDiff, reduceIte, reduceCtorEq, Nat.reduceLeDiff] <;> rfl) (by simp only [go_sem, eRun_exit, Nat.reduceAdd, Nat.reduceLT, Nat.reduceEqDiff, reduceIte, reduceCtorEq, Nat.reduceLeDiff] <;> rfl) (hc.frm g2 fun h => h) (h1.frm g2 fun _ _ h => h) (h2.frm g2 fun _ _ h => h) (S3 := fun _ => False) (S4 := fun _ => False) .nil .nil (by simp) (by simp) fun f' hF' => h f' w2 hF' (hf'.tr g2)
      · exact absurd hok hno
    · rcases hcase with ⟨_, hno, _⟩ | ⟨rfl, _, rfl⟩
      · exact absurd hok hno
      · have hinv := planRun_inv (body := r.body) hb.args (r.body.length - (startP r.body kk).1.length) _ (startP_inv hb hok)
        have hl1 : (planP r kk).1.length ≤ r.body.length := planRun_len _ _ (by
          have := startP_len r.body kk
          by_cases h0 : 0 ≤ kk
          · have := hok.2.2.1; omega
          · simp [startP, h0])
        have hl2 := hinv.len
        have hb7 := hb.body
        refine WS_runB 11 (by simp only [go_sem, eRun_exit, Nat.reduceAdd, Nat.reduceLT, Nat.reduceEqDiff, reduceIte, reduceCtorEq, Nat.reduceLeDiff]; rfl) ?_
        refine pa_cmp C (s := planP r kk) (kk := kk) (first := first) (i := i) (rv := .slice b o rs.length c) (n9 := n9) (b := true) ⟨(by simp only [go_sem, eRun_exit, Nat.reduceAdd, Nat.reduceLT, Nat.reduceEqDiff, reduceIte, reduceCtorEq, Nat.reduceLeDiff, f1] <;> rfl), (by simp only [go_sem, eRun_exit, Nat.reduceAdd, Nat.reduceLT, Nat.reduceEqDiff, reduceIte, reduceCtorEq, Nat.reduceLeDiff, f6] <;> rfl), (by simp only [go_sem, eRun_exit, Nat.reduceAdd, Nat.reduceLT, Nat.reduceEqDiff, reduceIte, reduceCtorEq, Nat.reduceLeDiff, f7] <;> rfl), (by simp only [go_sem, eRun_exit, Nat.reduceAdd, Nat.reduceLT, Nat.reduceEqDiff, reduceIte, reduceCtorEq, Nat.reduceLeDiff, f8] <;> rfl)⟩ (by simp only [go_sem, eRun_exit, Nat.reduceAdd, Nat.reduceLT, Nat.reduceEqDiff, reduceIte, reduceCtorEq, Nat.reduceLeDiff, f9] <;> rfl) (by simp only [go_sem, eRun_exit, Nat.reduceAdd, Nat.reduceLT, Nat.reduceEqDiff, reduceIte, reduceCtorEq, Nat.reduceLeDiff, f10] <;> rfl) (by simp only [go_sem, eRun_exit, Nat.reduceAdd, Nat.reduceLT, Nat.reduceEqDiff, reduceIte, reduceCtorEq, Nat.reduceLeDiff] <;> rfl) (by simp only [go_sem, eRun_exit, Nat.reduceAdd, Nat.reduceLT, Nat.reduceEqDiff, reduceIte, reduceCtorEq, Nat.reduceLeDiff] <;> rfl) (by simp only [go_sem, eRun_exit, Nat.reduceAdd, Nat.reduceLT, Nat.reduceEqDiff, reduceIte, reduceCtorEq, Nat.reduceLeDiff] <;> rfl) (hc.frm g2 fun h => h) (h1.frm g2 fun _ _ h => h) (h2.frm g2 fun _ _ h => h) q1 q2 (by omega) (by show (planP r kk).2.length ≤ 1000; exact Nat.le_trans hl2 (by show 5 * (planP r kk).1.length ≤ 1000; omega)) fun f' hF' => h f' w2 hF' (hf'.tr g2)
  refine WS_run 1000 (by simp only [go_sem, eRun_exit, Nat.reduceAdd, Nat.reduceLT, Nat.reduceEqDiff, reduceIte, reduceCtorEq, Nat.reduceLeDiff, k_law12_PlanAll_p10, f6, f7, f8, hlt, a4]; rfl) ?_
  refine WS_call (by simp only [go_sem, eRun_exit, Nat.reduceAdd, Nat.reduceLT, Nat.reduceEqDiff, reduceIte, reduceCtorEq, Nat.reduceLeDiff]) (by simp only [go_sem, eRun_exit, Nat.reduceAdd, Nat.reduceLT, Nat.reduceEqDiff, reduceIte, reduceCtorEq, Nat.reduceLeDiff]; rfl) ?_
  refine make_ok C (hxs.frm hf fun _ _ h => h) hb (fun w2 hno g2 => ?_) (fun w2 ov1 bv1 So Sb hok q1 q2 g2 _ => ?_)
  · obtain ⟨w3, s3, c3, r3, n3⟩ := boxed w2 (zs := [V.nilslice, V.nilslice]) (vs := [V.nilslice, V.nilslice]) rfl rfl
    refine WS_runB 9 (by simp only [go_sem, eRun_exit, Nat.reduceAdd, Nat.reduceLT, Nat.reduceEqDiff, reduceIte, reduceCtorEq, Nat.reduceLeDiff, s3, List.length_cons, List.length_nil]; rfl) ?_
    exact second (s := ([], [])) (S1 := fun _ => False) (S2 := fun _ => False) ⟨(by simp only [go_sem, eRun_exit, Nat.reduceAdd, Nat.reduceLT, Nat.reduceEqDiff, reduceIte, reduceCtorEq, Nat.reduceLeDiff, f1] <;> rfl), (by simp only [go_sem, eRun_exit, Nat.reduceAdd, Nat.reduceLT, Nat.reduceEqDiff, reduceIte, reduceCtorEq, Nat.reduceLeDiff, f6] <;> rfl), (by simp only [go_sem, eRun_exit, Nat.reduceAdd, Nat.reduceLT, Nat.reduceEqDiff, reduceIte, reduceCtorEq, Nat.reduceLeDiff, f7] <;> rfl), (by simp only [go_sem, eRun_exit, Nat.reduceAdd, Nat.reduceLT, Nat.reduceEqDiff, reduceIte, reduceCtorEq, Nat.reduceLeDiff, f8] <;> rfl)⟩ (by simp only [go_sem, eRun_exit, Nat.reduceAdd, Nat.reduceLT, Nat.reduceEqDiff, reduceIte, reduceCtorEq, Nat.reduceLeDiff] <;> rfl) (by simp only [go_sem, eRun_exit, Nat.reduceAdd, Nat.reduceLT, Nat.reduceEqDiff, reduceIte, reduceCtorEq, Nat.reduceLeDiff] <;> rfl) ((hf.tr g2).tr r3) c3 .nil .nil (.inl ⟨rfl, hno, rfl⟩)
  · have hone : allOne [ov1, bv1] = true := by
      rw [allOne_iff]; intro x hx; simp at hx
      rcases hx with rfl | rfl
      · exact q1.one.1
      · exact q2.one.1
    obtain ⟨w3, s3, c3, r3, n3⟩ := boxed w2 (zs := [V.nilslice, V.nilslice]) (vs := [ov1, bv1]) rfl hone
    refine WS_runB 9 (by simp only [go_sem, eRun_exit, Nat.reduceAdd, Nat.reduceLT, Nat.reduceEqDiff, reduceIte, reduceCtorEq, Nat.reduceLeDiff, s3, List.length_cons, List.length_nil]; rfl) ?_
    exact second ⟨(by simp only [go_sem, eRun_exit, Nat.reduceAdd, Nat.reduceLT, Nat.reduceEqDiff, reduceIte, reduceCtorEq, Nat.reduceLeDiff, f1] <;> rfl), (by simp only [go_sem, eRun_exit, Nat.reduceAdd, Nat.reduceLT, Nat.reduceEqDiff, reduceIte, reduceCtorEq, Nat.reduceLeDiff, f6] <;> rfl), (by simp only [go_sem, eRun_exit, Nat.reduceAdd, Nat.reduceLT, Nat.reduceEqDiff, reduceIte, reduceCtorEq, Nat.reduceLeDiff, f7] <;> rfl), (by simp only [go_sem, eRun_exit, Nat.reduceAdd, Nat.reduceLT, Nat.reduceEqDiff, reduceIte, reduceCtorEq, Nat.reduceLeDiff, f8] <;> rfl)⟩ (by simp only [go_sem, eRun_exit, Nat.reduceAdd, Nat.reduceLT, Nat.reduceEqDiff, reduceIte, reduceCtorEq, Nat.reduceLeDiff] <;> rfl) (by simp only [go_sem, eRun_exit, Nat.reduceAdd, Nat.reduceLT, Nat.reduceEqDiff, reduceIte, reduceCtorEq, Nat.reduceLeDiff] <;> rfl) ((hf.tr g2).tr r3) c3 (q1.frm r3 fun _ _ h => h) (q2.frm r3 fun _ _ h => h) (.inr ⟨rfl, hok, rfl⟩)
end Go.Proofs.Ytjidefnbancmfaa

/- PlanAll: the law, whole. -/
set_option linter.unusedVariables false
set_option maxRecDepth 10000
set_option linter.unusedSimpArgs false
namespace Go.Proofs.Ytjidefnbancmfaa
open Go.AE Delphi
variable {tab : Tab}
def KlI (rv : V) (first : Int) (i n : Nat) (w0 : AW) (q : Nat) (f : Fr) (w : AW) : Prop :=
  ∃ m, PaF f rv first i (kOf m) ∧ m ≤ n + 3 ∧ q = n + 3 - m ∧ Frm (fun _ => False) w0 w
structure PaG (f : Fr) (rv : V) (first : Int) (i : Nat) : Prop where
  f1 : f.get 1 = some (.int .i64 first)
  f6 : f.get 6 = some rv
  f7 : f.get 7 = some (.int .i64 (Int.ofNat i))
def RuI (rv : V) (first : Int) (n : Nat) (w0 : AW) (q : Nat) (f : Fr) (w : AW) : Prop :=
  ∃ i, PaG f rv first i ∧ i ≤ n ∧ q = n - i ∧ Frm (fun _ => False) w0 w
/-- a rule. -/
theorem pa_rule (C : Codes tab) {T : Nat → Prop} {w0 w : AW} {rv : V} {rs : List Rl} {r : Rl} {first : Int} {i : Nat} {f : Fr} {st : List SI} {Q : Fr → AW → Prop} (hr : RdL (RlC T) T w0 rv 4 rs) (hbr : ∀ r ∈ rs, RBr r) (hi : rs[i]? = some r) (hf : Frm (fun _ => False) w0 w) (hF : PaG f rv first i) (f8 : f.get 8 = some (.int .i64 (kOf 0)))
    (h : ∀ f' w', PaG f' rv first i → Frm (fun _ => False) w0 w' → WS tab (.code k_law12_PlanAll_p14 :: st) f' w' Q) : WS tab (.code (.loop k_law12_PlanAll_p11) :: .endB 2 :: .code k_law12_PlanAll_p14 :: st) f w Q := by
  have hlt : i < rs.length := (List.getElem?_eq_some_iff.1 hi).1
  have hb := hbr r (List.mem_of_getElem? hi)
  have hb7 := hb.body
  obtain ⟨f1, f6, f7⟩ := hF
  refine WS_loopJ (KlI rv first i r.body.length w0) (fun f w => PaG f rv first i ∧ Frm (fun _ => False) w0 w) ?_ ?_ (r.body.length + 3) ⟨0, ⟨f1, f6, f7, f8⟩, by omega, rfl, hf⟩
  · rintro q f w ⟨m, ⟨f1, f6, f7, f8⟩, hm, rfl, hf⟩ ih exit
    obtain ⟨b, o, c, xs, e, hxs, _, hp⟩ := rls_at2 hr hf hi
    have e' := e
    subst e'
    obtain ⟨v, u, rfl, hv, hu⟩ := hxs
    have a3 : w.load b (o + i * 4 + 3) 1 = some [u] := hp 3 1 (by omega)
    have hul := rdL_lenV hu
    by_cases hle : m ≤ r.body.length + 2
    · have d1 : decide (kOf m ≤ Int.ofNat r.body.length) = true := decide_eq_true (by have : Int.ofNat r.body.length = (r.body.length : Int) := rfl; unfold kOf; omega)
      have hwr : IntKind.wrap .i64 (kOf m + 1) = kOf (m + 1) := by unfold kOf; rw [wrap_id] <;> omega
      refine WS_runB 16 (by simp only [go_sem, eRun_exit, Nat.reduceAdd, Nat.reduceLT, Nat.reduceEqDiff, reduceIte, reduceCtorEq, Nat.reduceLeDiff, k_law12_PlanAll_p11, f6, f7, f8, hlt, a3, hul, d1]; rfl) ?_
      refine pa_pair C hr hbr hi hf ⟨(by simp only [go_sem, eRun_exit, Nat.reduceAdd, Nat.reduceLT, Nat.reduceEqDiff, reduceIte, reduceCtorEq, Nat.reduceLeDiff, f1] <;> rfl), (by simp only [go_sem, eRun_exit, Nat.reduceAdd, Nat.reduceLT, Nat.reduceEqDiff, reduceIte, reduceCtorEq, Nat.reduceLeDiff, f6] <;> rfl), (by simp only [go_sem, eRun_exit, Nat.reduceAdd, Nat.reduceLT, Nat.reduceEqDiff, reduceIte, reduceCtorEq, Nat.reduceLeDiff, f7] <;> rfl), (by simp only [go_sem, eRun_exit, Nat.reduceAdd, Nat.reduceLT, Nat.reduceEqDiff, reduceIte, reduceCtorEq, Nat.reduceLeDiff, f8] <;> rfl)⟩ fun f' w' hF' hf' => ?_
      obtain ⟨f1, f6, f7, f8⟩ := hF'
      refine WS_run 1000 (by simp only [go_sem, eRun_exit, Nat.reduceAdd, Nat.reduceLT, Nat.reduceEqDiff, reduceIte, reduceCtorEq, Nat.reduceLeDiff, f8, hwr]; rfl) ?_
      exact ih _ _ _ (by omega) ⟨m + 1, ⟨(by simp only [go_sem, eRun_exit, Nat.reduceAdd, Nat.reduceLT, Nat.reduceEqDiff, reduceIte, reduceCtorEq, Nat.reduceLeDiff, f1] <;> rfl), (by simp only [go_sem, eRun_exit, Nat.reduceAdd, Nat.reduceLT, Nat.reduceEqDiff, reduceIte, reduceCtorEq, Nat.reduceLeDiff, f6] <;> rfl), (by simp only [go_sem, eRun_exit, Nat.reduceAdd, Nat.reduceLT, Nat.reduceEqDiff, reduceIte, reduceCtorEq, Nat.reduceLeDiff, f7] <;> rfl), (by simp only [go_sem, eRun_exit, Nat.reduceAdd, Nat.reduceLT, Nat.reduceEqDiff, reduceIte, reduceCtorEq, Nat.reduceLeDiff] <;> rfl)⟩, by omega, rfl, hf'⟩
    · have d1 : decide (kOf m ≤ Int.ofNat r.body.length) = false := decide_eq_false (by have : Int.ofNat r.body.length = (r.body.length : Int) := rfl; unfold kOf; omega)
      refine WS_runB 1000 (by simp only [go_sem, Nat.reduceAdd, Nat.reduceLT, Nat.reduceEqDiff, reduceIte, reduceCtorEq, Nat.reduceLeDiff, k_law12_PlanAll_p11, f6, f7, f8, hlt, a3, hul, d1]; rfl) ?_
      exact exit _ _ _ ⟨⟨(by simp only [go_sem, eRun_exit, Nat.reduceAdd, Nat.reduceLT, Nat.reduceEqDiff, reduceIte, reduceCtorEq, Nat.reduceLeDiff, f1] <;> rfl), (by simp only [go_sem, eRun_exit, Nat.reduceAdd, Nat.reduceLT, Nat.reduceEqDiff, reduceIte, reduceCtorEq, Nat.reduceLeDiff, f6] <;> rfl), (by simp only [go_sem, eRun_exit, Nat.reduceAdd, Nat.reduceLT, Nat.reduceEqDiff, reduceIte, reduceCtorEq, Nat.reduceLeDiff, f7] <;> rfl)⟩, hf⟩ rfl
  · rintro f w ⟨hF, hf⟩
    exact h f w hF hf
/-- PlanAll. -/
theorem planAll_law (C : Codes tab) (B : Begins tab n_law12_begun) {s : List Nat} {first : Int} {aw : AW} (hs : ∀ x ∈ s, x < 256) :
    WF tab n_law12_PlanAll [.str s, .int .i64 first] aw (fun v aw' => v = .bool true ∧ Ext aw.next aw aw') := by
  refine WF_of C.c_law12_PlanAll rfl ?_
  refine WS_run 1000 (by simp only [go_sem, eRun_exit, Nat.reduceAdd, Nat.reduceLT, Nat.reduceEqDiff, reduceIte, reduceCtorEq, Nat.reduceLeDiff, k_law12_PlanAll]; rfl) ?_
  refine WS_call (by simp only [go_sem, eRun_exit, Nat.reduceAdd, Nat.reduceLT, Nat.reduceEqDiff, reduceIte, reduceCtorEq, Nat.reduceLeDiff]) (by simp only [go_sem, eRun_exit, Nat.reduceAdd, Nat.reduceLT, Nat.reduceEqDiff, reduceIte, reduceCtorEq, Nat.reduceLeDiff]; rfl) ?_
  refine begins_ok B ?_
  refine WS_run 1000 (by simp only [go_sem, eRun_exit, Nat.reduceAdd, Nat.reduceLT, Nat.reduceEqDiff, reduceIte, reduceCtorEq, Nat.reduceLeDiff, k_law12_PlanAll_p17]; rfl) ?_
  refine WS_call (by simp only [go_sem, eRun_exit, Nat.reduceAdd, Nat.reduceLT, Nat.reduceEqDiff, reduceIte, reduceCtorEq, Nat.reduceLeDiff]) (by simp only [go_sem, eRun_exit, Nat.reduceAdd, Nat.reduceLT, Nat.reduceEqDiff, reduceIte, reduceCtorEq, Nat.reduceLeDiff]; rfl) ?_
  refine lrules_ok C hs fun w rv T rs hrs h1 h2 h3 => ?_
  obtain ⟨b1, b2⟩ := rProgram_bd (s.take 1200)
  rw [← hrs] at b1 b2
  clear hrs
  have hlv := rdL_lenV h1
  refine WS_run 1000 (by simp only [go_sem, eRun_exit, Nat.reduceAdd, Nat.reduceLT, Nat.reduceEqDiff, reduceIte, reduceCtorEq, Nat.reduceLeDiff]; rfl) ?_
  refine WS_loopJ (RuI rv first rs.length w) (fun f w' => Frm (fun _ => False) w w') ?_ ?_ rs.length ⟨0, ⟨(by simp only [go_sem, eRun_exit, Nat.reduceAdd, Nat.reduceLT, Nat.reduceEqDiff, reduceIte, reduceCtorEq, Nat.reduceLeDiff] <;> rfl), (by simp only [go_sem, eRun_exit, Nat.reduceAdd, Nat.reduceLT, Nat.reduceEqDiff, reduceIte, reduceCtorEq, Nat.reduceLeDiff] <;> rfl), (by simp only [go_sem, eRun_exit, Nat.reduceAdd, Nat.reduceLT, Nat.reduceEqDiff, reduceIte, reduceCtorEq, Nat.reduceLeDiff] <;> rfl)⟩, by omega, rfl, Frm.refl _⟩
  · rintro q f w' ⟨i, ⟨f1, f6, f7⟩, hi, rfl, hf⟩ ih exit
    by_cases hlt : i < rs.length
    case neg =>
      refine WS_runB 1000 (by simp only [go_sem, Nat.reduceAdd, Nat.reduceLT, Nat.reduceEqDiff, reduceIte, reduceCtorEq, Nat.reduceLeDiff, k_law12_PlanAll_p16, f6, f7, hlv, hlt]; rfl) ?_
      exact exit _ _ _ hf rfl
    obtain ⟨r, hr⟩ : ∃ r, rs[i]? = some r := ⟨_, List.getElem?_eq_getElem hlt⟩
    have hwr : IntKind.wrap .i64 (Int.ofNat i + 1) = Int.ofNat (i + 1) := wrap_succ (by omega)
    refine WS_runB 18 (by simp only [go_sem, eRun_exit, Nat.reduceAdd, Nat.reduceLT, Nat.reduceEqDiff, reduceIte, reduceCtorEq, Nat.reduceLeDiff, k_law12_PlanAll_p16, k_law12_PlanAll_p15, f6, f7, hlv, hlt]; rfl) ?_
    refine pa_rule C h1 b2 hr hf ⟨(by simp only [go_sem, eRun_exit, Nat.reduceAdd, Nat.reduceLT, Nat.reduceEqDiff, reduceIte, reduceCtorEq, Nat.reduceLeDiff, f1] <;> rfl), (by simp only [go_sem, eRun_exit, Nat.reduceAdd, Nat.reduceLT, Nat.reduceEqDiff, reduceIte, reduceCtorEq, Nat.reduceLeDiff, f6] <;> rfl), (by simp only [go_sem, eRun_exit, Nat.reduceAdd, Nat.reduceLT, Nat.reduceEqDiff, reduceIte, reduceCtorEq, Nat.reduceLeDiff, f7] <;> rfl)⟩ (by simp only [go_sem, eRun_exit, Nat.reduceAdd, Nat.reduceLT, Nat.reduceEqDiff, reduceIte, reduceCtorEq, Nat.reduceLeDiff] <;> rfl) fun f w2 hF hf2 => ?_
    obtain ⟨f1, f6, f7⟩ := hF
    have hb := b2 r (List.mem_of_getElem? hr)
    obtain ⟨b, o, c, xs, e, hxs, a4, _⟩ := rls_at2 h1 hf2 hr
    subst e
    refine WS_run 1000 (by simp only [go_sem, eRun_exit, Nat.reduceAdd, Nat.reduceLT, Nat.reduceEqDiff, reduceIte, reduceCtorEq, Nat.reduceLeDiff, k_law12_PlanAll_p14, f1, f6, f7, hlt, a4]; rfl) ?_
    refine WS_call (by simp only [go_sem, eRun_exit, Nat.reduceAdd, Nat.reduceLT, Nat.reduceEqDiff, reduceIte, reduceCtorEq, Nat.reduceLeDiff]) (by simp only [go_sem, eRun_exit, Nat.reduceAdd, Nat.reduceLT, Nat.reduceEqDiff, reduceIte, reduceCtorEq, Nat.reduceLeDiff]; rfl) ?_
    -- the other one, at the same place
    have second : ∀ {fr : Fr} {w3 : AW} {ok : Bool}, PaG fr (.slice b o rs.length c) first i → fr.get 17 = some (.bool ok) → Frm (fun _ => False) w w3 → ((ok = false ∧ ¬ okPl r first) ∨ (ok = true ∧ okPl r first)) →
        WS tab (.code k_law12_PlanAll_p13 :: .endB 1 :: .code (.region [⟨some 30, none, .mov (.tmp 7)⟩, ⟨some 31, none, .bin .add (.tmp 30) (.const (.int .i64 1))⟩, ⟨some 7, none, .mov (.tmp 31)⟩]) :: .code (.loop k_law12_PlanAll_p16) :: .endB 0 :: [.code (.seq (.region [⟨some 4, none, .mov (.const (.bool true))⟩]) .ret)]) fr w3 fun fr' a => ∃ vs, resV fr' a k_law12_PlanAll.results = some vs ∧ (resOne vs = .bool true ∧ Ext aw.next aw a) := by
      rintro fr w3 ok ⟨f1, f6, f7⟩ f17 hf3 hcase
      obtain ⟨b', o', c', xs', e, hxs', a4', _⟩ := rls_at2 h1 hf3 hr
      cases e
      refine WS_run 1000 (by simp only [go_sem, eRun_exit, Nat.reduceAdd, Nat.reduceLT, Nat.reduceEqDiff, reduceIte, reduceCtorEq, Nat.reduceLeDiff, k_law12_PlanAll_p13, f1, f6, f7, hlt, a4']; rfl) ?_
      refine WS_call (by simp only [go_sem, eRun_exit, Nat.reduceAdd, Nat.reduceLT, Nat.reduceEqDiff, reduceIte, reduceCtorEq, Nat.reduceLeDiff]) (by simp only [go_sem, eRun_exit, Nat.reduceAdd, Nat.reduceLT, Nat.reduceEqDiff, reduceIte, reduceCtorEq, Nat.reduceLeDiff]; rfl) ?_
      refine rplan_ok C (hxs'.frm hf3 fun _ _ h => h) hb (fun w4 hno g4 => ?_) (fun w4 ov2 bv2 So Sb hok q1 q2 g4 _ => ?_)
      · rcases hcase with ⟨rfl, _⟩ | ⟨_, hok⟩
        · refine WS_run 1000 (by simp only [go_sem, eRun_exit, Nat.reduceAdd, Nat.reduceLT, Nat.reduceEqDiff, reduceIte, reduceCtorEq, Nat.reduceLeDiff, f7, f17, eqV, hwr]; rfl) ?_
          exact ih _ _ _ (by omega) ⟨i + 1, ⟨(by simp only [go_sem, eRun_exit, Nat.reduceAdd, Nat.reduceLT, Nat.reduceEqDiff, reduceIte, reduceCtorEq, Nat.reduceLeDiff, f1] <;> rfl), (by simp only [go_sem, eRun_exit, Nat.reduceAdd, Nat.reduceLT, Nat.reduceEqDiff, reduceIte, reduceCtorEq, Nat.reduceLeDiff, f6] <;> rfl), (by simp only [go_sem, eRun_exit, Nat.reduceAdd, Nat.reduceLT, Nat.reduceEqDiff, reduceIte, reduceCtorEq, Nat.reduceLeDiff] <;> rfl)⟩, by omega, rfl, hf3.tr g4⟩
        · exact absurd hok hno
      · rcases hcase with ⟨_, hno⟩ | ⟨rfl, _⟩
        · exact absurd hok hno
        · refine WS_run 1000 (by simp only [go_sem, eRun_exit, Nat.reduceAdd, Nat.reduceLT, Nat.reduceEqDiff, reduceIte, reduceCtorEq, Nat.reduceLeDiff, f7, f17, eqV, hwr]; rfl) ?_
          exact ih _ _ _ (by omega) ⟨i + 1, ⟨(by simp only [go_sem, eRun_exit, Nat.reduceAdd, Nat.reduceLT, Nat.reduceEqDiff, reduceIte, reduceCtorEq, Nat.reduceLeDiff, f1] <;> rfl), (by simp only [go_sem, eRun_exit, Nat.reduceAdd, Nat.reduceLT, Nat.reduceEqDiff, reduceIte, reduceCtorEq, Nat.reduceLeDiff, f6] <;> rfl), (by simp only [go_sem, eRun_exit, Nat.reduceAdd, Nat.reduceLT, Nat.reduceEqDiff, reduceIte, reduceCtorEq, Nat.reduceLeDiff] <;> rfl)⟩, by omega, rfl, hf3.tr g4⟩
    refine make_ok C (hxs.frm hf2 fun _ _ h => h) hb (fun w3 hno g3 => ?_) (fun w3 ov1 bv1 So Sb hok q1 q2 g3 _ => ?_)
    · obtain ⟨w4, s4, c4, r4, n4⟩ := boxed w3 (zs := [V.nilslice, V.nilslice]) (vs := [V.nilslice, V.nilslice]) rfl rfl
      refine WS_runB 9 (by simp only [go_sem, eRun_exit, Nat.reduceAdd, Nat.reduceLT, Nat.reduceEqDiff, reduceIte, reduceCtorEq, Nat.reduceLeDiff, s4, List.length_cons, List.length_nil]; rfl) ?_
      exact second ⟨(by simp only [go_sem, eRun_exit, Nat.reduceAdd, Nat.reduceLT, Nat.reduceEqDiff, reduceIte, reduceCtorEq, Nat.reduceLeDiff, f1] <;> rfl), (by simp only [go_sem, eRun_exit, Nat.reduceAdd, Nat.reduceLT, Nat.reduceEqDiff, reduceIte, reduceCtorEq, Nat.reduceLeDiff, f6] <;> rfl), (by simp only [go_sem, eRun_exit, Nat.reduceAdd, Nat.reduceLT, Nat.reduceEqDiff, reduceIte, reduceCtorEq, Nat.reduceLeDiff, f7] <;> rfl)⟩ (by simp only [go_sem, eRun_exit, Nat.reduceAdd, Nat.reduceLT, Nat.reduceEqDiff, reduceIte, reduceCtorEq, Nat.reduceLeDiff] <;> rfl) ((hf2.tr g3).tr r4) (.inl ⟨rfl, hno⟩)
    · have hone : allOne [ov1, bv1] = true := by
        rw [allOne_iff]; intro x hx; simp at hx
        rcases hx with rfl | rfl
        · exact q1.one.1
        · exact q2.one.1
      obtain ⟨w4, s4, c4, r4, n4⟩ := boxed w3 (zs := [V.nilslice, V.nilslice]) (vs := [ov1, bv1]) rfl hone
      refine WS_runB 9 (by simp only [go_sem, eRun_exit, Nat.reduceAdd, Nat.reduceLT, Nat.reduceEqDiff, reduceIte, reduceCtorEq, Nat.reduceLeDiff, s4, List.length_cons, List.length_nil]; rfl) ?_
      exact second ⟨(by simp only [go_sem, eRun_exit, Nat.reduceAdd, Nat.reduceLT, Nat.reduceEqDiff, reduceIte, reduceCtorEq, Nat.reduceLeDiff, f1] <;> rfl), (by simp only [go_sem, eRun_exit, Nat.reduceAdd, Nat.reduceLT, Nat.reduceEqDiff, reduceIte, reduceCtorEq, Nat.reduceLeDiff, f6] <;> rfl), (by simp only [go_sem, eRun_exit, Nat.reduceAdd, Nat.reduceLT, Nat.reduceEqDiff, reduceIte, reduceCtorEq, Nat.reduceLeDiff, f7] <;> rfl)⟩ (by simp only [go_sem, eRun_exit, Nat.reduceAdd, Nat.reduceLT, Nat.reduceEqDiff, reduceIte, reduceCtorEq, Nat.reduceLeDiff] <;> rfl) ((hf2.tr g3).tr r4) (.inr ⟨rfl, hok⟩)
  · rintro f w' hf
    refine WS_run 1000 (by simp only [go_sem, eRun_exit, Nat.reduceAdd, Nat.reduceLT, Nat.reduceEqDiff, reduceIte, reduceCtorEq, Nat.reduceLeDiff]; rfl) ?_
    refine WS_ret ⟨_, by simp only [go_sem, eRun_exit, Nat.reduceAdd, Nat.reduceLT, Nat.reduceEqDiff, reduceIte, reduceCtorEq, Nat.reduceLeDiff, k_law12_PlanAll]; rfl, ?_⟩
    exact ⟨rfl, (h2.tr hf).ext (Nat.le_refl _) fun x hx => hx.elim⟩
end Go.Proofs.Ytjidefnbancmfaa

/- slices.Insert at this seat's element type: what stands in the midst is pushed back, in place or in a new row. (The walk is the library's worked proof at strings, turned to this type.) -/
set_option linter.unusedVariables false
set_option linter.unusedSimpArgs false
namespace Go.Proofs.Ytjidefnbancmfaa
open Go.Shelf Go.RowKit Go.Lib Go.Proofs
theorem info_facts : ∃ i0, Try.prog.info? 78 = some i0 ∧ i0.zero = some (Value.slice none 0 0) ∧ i0.size = 1 ∧ i0.bytes = 24 := ⟨(Try.prog.info? 78).get!, by kernel_rfl, by kernel_rfl, by kernel_rfl, by kernel_rfl⟩
theorem size_fact : ∀ w, (Go.sizeOf 78).run Try.prog w = .ok 1 w := fun w => by
  obtain ⟨i0, h0, _, h1, _⟩ := info_facts
  simp [sizeOf, typeInfo, h0, h1]
set_option maxHeartbeats 4000000 in
set_option maxRecDepth 100000 in
theorem ins_shift (b off n c i vb voff m vc : Nat) (cs vs : List Value) (w : World) (hi : i < n) (hm : 0 < m) (hroom : n + m ≤ c) (hc63 : n + m ≤ 9223372036854775807) (hvb : vb ≠ b)
    (hcl : cs.length = n) (hvl : vs.length = m)
    (hcs : ∀ j v, cs[j]? = some v → w.cell? ⟨b, off + j, none⟩ = some v) (hsp : ∀ j, j < n + m → (w.cell? ⟨b, off + j, none⟩).isSome = true) (hfz : ∀ j, j < n + m → w.frozen? ⟨b, off + j, none⟩ = false)
    (hvs : ∀ j v, vs[j]? = some v → w.cell? ⟨vb, voff + j, none⟩ = some v) (h1c : ∀ v ∈ cs, v.oneCell' = true) (h1v : ∀ v ∈ vs, v.oneCell' = true)
    (tA tB : TypeId) (kA kB : Nat) (hsa : w.shape? vb = some (tA, kA)) (hsb : w.shape? b = some (tB, kB)) (hkB : kB ≠ 0) (hfa : w.frozen? ⟨vb, voff, none⟩ = false) (hfe : w.frozen? ⟨vb, kA, none⟩ = false) :
    Calls Try.prog 54 #[.slice (some ⟨b, off, none⟩) n c, .int .i64 i, .slice (some ⟨vb, voff, none⟩) m vc] w fun e w' =>
      e = .returned (.slice (some ⟨b, off, none⟩) (n + m) c) ∧ w' = (w.drew.setCells b (off + (i + m)) (cs.drop i)).setCells b (off + i) vs := by
  have hz1 : ¬ ((m : Int) = 0) := by omega
  have hz2 : ¬ ((i : Int) = (n : Int)) := by omega
  have hsz : (Try.prog.info? 78).map (·.size) = some 1 := by kernel_rfl
  have hov : ∀ lb cb, (callFunc 75 #[.slice (some ⟨vb, voff, none⟩) m vc, .slice (some ⟨b, off + (i + m), none⟩) lb cb]).run Try.prog w = .ok (.value (.bool false)) w := fun lb cb => by
    rw [run_callFunc_extern Try.func75 (by kernel_rfl) (by kernel_rfl) (by kernel_rfl) (e := Extern.SlicesOverlaps.overlaps #[80, 80] #[4]) (by kernel_rfl),
      Lib.run_overlaps_apart w 80 4 78 Try.underlying80 1 size_fact ⟨vb, voff, none⟩ ⟨b, off + (i + m), none⟩ m vc lb cb hvb tA tB kA kB hsa hsb hkB hfa hfe]
    rfl
  have hdl : (cs.drop i).length = n - i := by rw [List.length_drop, hcl]
  have mixed : Try.prog.follows .mixedOrders = true := by kernel_rfl
  have hw1 : IntKind.i64.wrap ((i : Int) + (m : Int)) = (i : Int) + (m : Int) := by rw [IntKind.wrap_i64]; omega
  have hb1 : (0 : Int) ≤ (i : Int) + (m : Int) := by omega
  have hin : i ≤ n := by omega
  have htn : ((i : Int) + (m : Int)).toNat = i + m := by omega
  have hb2 : ¬ (c = i + m) := by omega
  have hb3 : (i : Int) ≤ (n : Int) + (m : Int) := by omega
  have hb4 : ¬ (c = i) := by omega
  have hcp1 : ∀ ty dc sc, (Builtin.copy_ #[80, 80] ty #[.slice (some ⟨b, off + (i + m), none⟩) (n + m - (i + m)) dc, .slice (some ⟨b, off + i, none⟩) (n + m - i) sc]).run Try.prog w.drew = .ok (goInt (cs.drop i).length) (w.drew.setCells b (off + (i + m)) (cs.drop i)) := fun ty dc sc =>
    run_copy_cells w.drew _ _ ty 78 b (off + (i + m)) (n + m - (i + m)) dc ⟨b, off + i, none⟩ (n + m - i) sc (cs.drop i) Try.underlying80 hsz (by rw [hdl]; simp only [Nat.min_def]; split <;> omega)
      (fun j v hj => by rw [Addr.add_lit, Nat.add_assoc]; exact hcs (i + j) v (by rwa [List.getElem?_drop] at hj))
      (fun j hj => by rw [Nat.add_assoc]; exact hsp _ (by omega)) (fun j hj => by rw [Nat.add_assoc]; exact hfz _ (by omega)) (fun v hv => h1c v (List.mem_of_mem_drop hv))
  obtain ⟨W1, hW1⟩ : ∃ W1, W1 = w.drew.setCells b (off + (i + m)) (cs.drop i) := ⟨_, rfl⟩
  have hsp1 : ∀ k, k < n + m → (W1.cell? ⟨b, off + k, none⟩).isSome = true := fun k hk => by
    rw [hW1]
    exact isSome_setCells b _ _ _ (fun j hj => by rw [Nat.add_assoc]; exact hsp _ (by omega)) _ (hsp k hk)
  have hcp2 : ∀ (W : World), (∀ x, W.cell? x = W1.cell? x) → (∀ x, W.frozen? x = W1.frozen? x) → ∀ ty dc, (Builtin.copy_ #[80, 80] ty #[.slice (some ⟨b, off + i, none⟩) (n + m - i) dc, .slice (some ⟨vb, voff, none⟩) m vc]).run Try.prog W = .ok (goInt vs.length) (W.setCells b (off + i) vs) := fun W hWc hWf ty dc =>
    run_copy_cells W _ _ ty 78 b (off + i) (n + m - i) dc ⟨vb, voff, none⟩ m vc vs Try.underlying80 hsz (by rw [hvl]; simp only [Nat.min_def]; split <;> omega)
      (fun j v hj => by
        rw [Addr.add_lit, hWc, hW1, World.cell?_setCells_out b _ _ _ _ (fun h _ => absurd h hvb)]
        exact hvs j v hj)
      (fun j hj => by rw [hWc, Nat.add_assoc]; exact hsp1 _ (by omega)) (fun j hj => by rw [hWf, hW1, World.frozen?_setCells, Nat.add_assoc]; exact hfz _ (by omega)) h1v
  rw [← hW1] at hcp1
  go_enter Try.func54, Try.ntmps54
  go_wp2_with (simp only [hov])
  go_region_law_o (refine step_copy_runI rfl _ _ 80 80 rfl _ _ (by simp [Act.eval, Act.put]) (by simp [Act.eval, Act.put]) (hcp1 _ _ _) ?_)
  go_wp2_with (at_builtin; refine wpList_copy_runI _ rfl _ _ 80 80 rfl _ _ rfl rfl (hcp2 _ (fun _ => rfl) (fun _ => rfl) _ _) ?_)
  go_ret
  first | exact ⟨rfl, rfl⟩ | exact ⟨rfl, by rw [hW1]⟩

set_option maxHeartbeats 4000000 in
set_option maxRecDepth 100000 in
theorem ins_grow (b off n c i vb voff m vc : Nat) (cs vs : List Value) (w : World) (hi : i < n) (hm : 0 < m) (hnc : n ≤ c) (hroom : c < n + m) (hbig : (n + m) * 24 ≤ 140737488355328)
    (hcl : cs.length = n) (hvl : vs.length = m)
    (hcs : ∀ j v, cs[j]? = some v → w.cell? ⟨b, off + j, none⟩ = some v)
    (hvs : ∀ j v, vs[j]? = some v → w.cell? ⟨vb, voff + j, none⟩ = some v) (h1c : ∀ v ∈ cs, v.oneCell' = true) (h1v : ∀ v ∈ vs, v.oneCell' = true) :
    Calls Try.prog 54 #[.slice (some ⟨b, off, none⟩) n c, .int .i64 i, .slice (some ⟨vb, voff, none⟩) m vc] w fun e w' =>
      e = .returned (.slice (some ⟨w.heap.size, 0, none⟩) (n + m) (grownCap w (n + m) c 78)) ∧
      w' = (((w.alloc (.cells ((cs.take i).toArray ++ Builtin.zeroCells (Value.slice none 0 0).cells (n + m - i) ++ Builtin.zeroCells (Value.slice none 0 0).cells (grownCap w (n + m) c 78 - (n + m))) 78)).drew.setCells w.heap.size i vs).drew).setCells w.heap.size (i + m) (cs.drop i) := by
  have mixed : Try.prog.follows .mixedOrders = true := by kernel_rfl
  obtain ⟨i0, hi0, hz0, hzs, hzb⟩ := info_facts
  have hz1 : ¬ ((m : Int) = 0) := by omega
  have hz2 : ¬ ((i : Int) = (n : Int)) := by omega
  have hz3 : (c : Int) < (n : Int) + (m : Int) := by omega
  have hsz : (Try.prog.info? 78).map (·.size) = some 1 := by rw [hi0]; simp [hzs]
  have hbw : b < w.heap.size := block_lt_of_cell (hcs 0 _ (List.getElem?_eq_getElem (by omega)))
  have hvw : vb < w.heap.size := block_lt_of_cell (hvs 0 _ (List.getElem?_eq_getElem (by omega)))
  have hkk : (n : Int) + (m : Int) - (i : Int) = ((n + m - i : Nat) : Int) := by omega
  have hik : i + (n + m - i) = n + m := by omega
  have hold : (Builtin.firstCells i0.size i (.slice (some ⟨b, off, none⟩) i c)).run Try.prog w.drew = .ok (cs.take i).toArray w.drew := by
    rw [hzs]
    exact run_firstCells_some w.drew 1 i ⟨b, off, none⟩ i c (cs.take i) (by rw [List.length_take]; omega) (fun j v hj => by
      rw [Addr.add_lit]
      rw [List.getElem?_take] at hj
      split at hj
      · exact hcs j v hj
      · cases hj)
  have hrz : ∀ ty, (Builtin.append_ #[80, 3] ty #[.slice (some ⟨b, off, none⟩) i c, .int .i64 ((n : Int) + (m : Int) - (i : Int))]).run Try.prog w =
      .ok (.slice (some ⟨w.heap.size, 0, none⟩) (n + m) (grownCap w (n + m) c 78)) (w.drew.alloc (.cells ((cs.take i).toArray ++ Builtin.zeroCells (Value.slice none 0 0).cells (n + m - i) ++ Builtin.zeroCells (Value.slice none 0 0).cells (grownCap w (n + m) c 78 - (n + m))) 78)) := fun ty => by
    have h := Lib.run_append_grow_zeros w 80 3 ty 78 i0 _ .i64 .i64 Try.underlying80 Try.underlying3 hi0 hz0 (some ⟨b, off, none⟩) i c (cs.take i) hold (n + m - i) (by omega) (by omega) (by omega) (by omega) (by rw [hzb]; omega) (by rw [hzb, hik]; exact growslice_fits hroom hbig)
    rw [hik] at h
    rw [hkk]
    exact h
  obtain ⟨G, hG⟩ : ∃ G, G = grownCap w (n + m) c 78 := ⟨_, rfl⟩
  obtain ⟨ROW, hROW⟩ : ∃ ROW : Array Value, ROW = (cs.take i).toArray ++ Builtin.zeroCells (Value.slice none 0 0).cells (n + m - i) ++ Builtin.zeroCells (Value.slice none 0 0).cells (G - (n + m)) := ⟨_, rfl⟩
  rw [← hG] at hrz ⊢
  rw [← hROW] at hrz ⊢
  have hRl : n + m ≤ ROW.size := by
    rw [hROW]
    simp [Builtin.zeroCells, Value.cells]
    omega
  obtain ⟨W1, hW1⟩ : ∃ W1, W1 = w.drew.alloc (.cells ROW 78) := ⟨_, rfl⟩
  rw [← hW1] at hrz
  have hN : ∀ j, j < n + m → (W1.cell? ⟨w.heap.size, j, none⟩).isSome = true := fun j hj => by
    rw [hW1, World.cell?_alloc_at (w := w.drew) ROW _ w.heap.size j rfl, Array.getElem?_eq_getElem (by omega)]; rfl
  have hNf : ∀ j, W1.frozen? ⟨w.heap.size, j, none⟩ = false := fun j => by rw [hW1]; exact World.frozen?_alloc_at (w := w.drew) ROW _ w.heap.size j rfl
  have hOb : ∀ j v, w.cell? ⟨b, j, none⟩ = some v → W1.cell? ⟨b, j, none⟩ = some v := fun j v h => by rw [hW1, World.cell?_alloc_past (w := w.drew) _ b j hbw]; exact h
  have hOv : ∀ j v, w.cell? ⟨vb, j, none⟩ = some v → W1.cell? ⟨vb, j, none⟩ = some v := fun j v h => by rw [hW1, World.cell?_alloc_past (w := w.drew) _ vb j hvw]; exact h
  have hcpA : ∀ (W : World), (∀ x, W.cell? x = W1.cell? x) → (∀ x, W.frozen? x = W1.frozen? x) → ∀ ty dc, (Builtin.copy_ #[80, 80] ty #[.slice (some ⟨w.heap.size, i, none⟩) (n + m - i) dc, .slice (some ⟨vb, voff, none⟩) m vc]).run Try.prog W = .ok (goInt vs.length) (W.setCells w.heap.size i vs) := fun W hWc hWf ty dc =>
    run_copy_cells W _ _ ty 78 w.heap.size i (n + m - i) dc ⟨vb, voff, none⟩ m vc vs Try.underlying80 hsz (by rw [hvl]; simp only [Nat.min_def]; split <;> omega)
      (fun j v hj => by rw [Addr.add_lit, hWc]; exact hOv _ v (hvs j v hj))
      (fun j hj => by rw [hWc]; exact hN _ (by omega)) (fun j hj => by rw [hWf]; exact hNf _) h1v
  have hGn : n + m ≤ G := by rw [hG]; exact grownCap_ge w _ _ _
  have hG63 : G ≤ 9223372036854775807 := by
    have := grownCap_le_maxLen w (n + m) c 78 (by unfold maxLen; omega)
    rw [← hG] at this
    unfold maxLen at this
    omega
  have hGi : ¬ (G = i) := by omega
  have hGim : ¬ (G = i + m) := by omega
  have hci : ¬ (c = i) := by omega
  have hbN : b ≠ w.heap.size := by omega
  have hdl : (cs.drop i).length = n - i := by rw [List.length_drop, hcl]
  have hcpB : ∀ (W : World), (∀ x, W.cell? x = (W1.setCells w.heap.size i vs).cell? x) → (∀ x, W.frozen? x = (W1.setCells w.heap.size i vs).frozen? x) → ∀ ty dc sc, (Builtin.copy_ #[80, 80] ty #[.slice (some ⟨w.heap.size, i + m, none⟩) (n + m - (i + m)) dc, .slice (some ⟨b, off + i, none⟩) (n - i) sc]).run Try.prog W = .ok (goInt (cs.drop i).length) (W.setCells w.heap.size (i + m) (cs.drop i)) := fun W hWc hWf ty dc sc =>
    run_copy_cells W _ _ ty 78 w.heap.size (i + m) (n + m - (i + m)) dc ⟨b, off + i, none⟩ (n - i) sc (cs.drop i) Try.underlying80 hsz (by rw [hdl]; simp only [Nat.min_def]; split <;> omega)
      (fun j v hj => by
        rw [Addr.add_lit, hWc, World.cell?_setCells_out _ _ _ _ _ (fun h _ => absurd h hbN), Nat.add_assoc]
        exact hOb _ v (hcs (i + j) v (by rwa [List.getElem?_drop] at hj)))
      (fun j hj => by rw [hWc]; exact isSome_setCells _ _ _ _ (fun t ht => hN _ (by omega)) _ (hN _ (by omega)))
      (fun j hj => by rw [hWf, World.frozen?_setCells]; exact hNf _) (fun v hv => h1c v (List.mem_of_mem_drop hv))
  subst hW1
  have hE1 : ∀ x, ((w.alloc (.cells ROW 78)).drew).cell? x = (w.drew.alloc (.cells ROW 78)).cell? x := fun x => rfl
  have hE2 : ∀ x, ((w.alloc (.cells ROW 78)).drew).frozen? x = (w.drew.alloc (.cells ROW 78)).frozen? x := fun x => rfl
  have hF1 : ∀ x, (((w.alloc (.cells ROW 78)).drew.setCells w.heap.size i vs).drew).cell? x = ((w.drew.alloc (.cells ROW 78)).setCells w.heap.size i vs).cell? x := fun x => rfl
  have hF2 : ∀ x, (((w.alloc (.cells ROW 78)).drew.setCells w.heap.size i vs).drew).frozen? x = ((w.drew.alloc (.cells ROW 78)).setCells w.heap.size i vs).frozen? x := fun x => rfl
  have hw1 : IntKind.i64.wrap ((i : Int) + (m : Int)) = (i : Int) + (m : Int) := by rw [IntKind.wrap_i64]; omega
  have hb1 : (0 : Int) ≤ (i : Int) + (m : Int) := by omega
  have hin : i ≤ n := by omega
  have htn : ((i : Int) + (m : Int)).toNat = i + m := by omega
  have hb3 : (i : Int) ≤ (n : Int) := by omega
  clear hkk hik hold hROW hG hRl
  go_enter Try.func54, Try.ntmps54
  go_wp2_with (first
    | (at_builtin; refine Lib.wpList_append_run _ rfl _ _ _ _ rfl _ _ rfl rfl _ _ (hrz _) ?_)
    | (at_builtin; refine wpList_copy_runI _ rfl _ _ 80 80 rfl _ _ rfl rfl (hcpA _ hE1 hE2 _ _) ?_)
    | (at_builtin; refine wpList_copy_runI _ rfl _ _ 80 80 rfl _ _ rfl rfl (hcpB _ (fun _ => rfl) (fun _ => rfl) _ _ _) ?_))
  go_region_law_o (refine step_copy_runI rfl _ _ 80 80 rfl (.slice (some ⟨w.heap.size, i + m, none⟩) (n + m - (i + m)) (G - (i + m))) (.slice (some ⟨b, off + i, none⟩) (n - i) (c - i)) (by simp [Act.eval, Act.put]) (by simp [Act.eval, Act.put]) (hcpB _ hF1 hF2 3 (G - (i + m)) (c - i)) ?_)
  go_wp2
  go_ret
  exact ⟨rfl, rfl⟩

end Go.Proofs.Ytjidefnbancmfaa

/- The seat's table: what functions do; begun laws. -/
set_option linter.unusedVariables false
namespace Go.Proofs.Ytjidefnbancmfaa
open Go.AE
def baseT (P : Program) : XTab where
  code := (XTab.of P).code
  prim f args aw := match f with
    | 54 => insPrim 24 args aw
    | _ => none
  ext f args aw := match f with
    | 96 => extIdx args
    | _ => none
theorem base_ok : TabOK Try.prog (baseT Try.prog).tab where
  mixed := by kernel_rfl
  code := (XTab.of_ok (P := Try.prog) (by kernel_rfl)).code
  prim f args aw v aw' h := by
    simp only [XTab.tab, baseT] at h
    split at h
    · refine ⟨⟨_, Try.func54, by kernel_rfl, by decide +kernel⟩, fun w m base args' hR hargs => ?_⟩
      exact insPrim_ok (te := 78) (zero := Value.slice none 0 0) (fun b off n c i vb voff m vc cs vs w => ins_shift b off n c i vb voff m vc cs vs w) (fun b off n c i vb voff m vc cs vs w => ins_grow b off n c i vb voff m vc cs vs w) rfl h w m base args' hR hargs
    · cases h
  ext f args aw v h w m base args' hR hargs := by
    simp only [XTab.tab, baseT] at h
    split at h
    · exact extIdx_ok Try.func96 (by kernel_rfl) (by kernel_rfl) (by kernel_rfl) (by kernel_rfl) h w m args' hargs
    · cases h
/-- a closed run, told of any state. -/
theorem begun_good {f : Nat} (hf : ∃ fn, Try.prog.funcs[f]? = some fn ∧ fn.body.isSome = true ∧ fn.name ≠ "runtime.NumGoroutine") (h : isTrue (xCall (baseT Try.prog) (xRunK (baseT Try.prog) 100000) f [] AW.empty) = true) (aw : AW) : GoodC Try.prog f [] aw (.bool true) aw := by
  refine ⟨hf, fun w m base args' hR hargs => ?_⟩
  have hz : args' = #[] := by cases args'; cases hargs; rfl
  subst hz
  refine (closed_ok base_ok (runK_true h) w).mono ?_
  rintro e w' ⟨rfl, hb⟩
  obtain ⟨h1, h2⟩ := hR.below hb
  exact ⟨.bool true, m, rfl, rfl, h1, h2⟩
def tabW (P : Program) (L : List Nat) : Tab where
  code := (XTab.of P).code
  prim f args aw v aw' := (baseT P).tab.prim f args aw v aw' ∨ (f ∈ L ∧ args = [] ∧ v = .bool true ∧ aw' = aw)
  ext := (baseT P).tab.ext
theorem tabW_ok {L : List Nat} (hL : ∀ f ∈ L, ∀ aw, GoodC Try.prog f [] aw (.bool true) aw) : TabOK Try.prog (tabW Try.prog L) where
  mixed := base_ok.mixed
  code := base_ok.code
  prim f args aw v aw' h := by
    rcases h with h | ⟨h1, rfl, rfl, rfl⟩
    · exact base_ok.prim f args aw v aw' h
    · exact hL f h1 _
  ext := base_ok.ext
theorem codesW (L : List Nat) : Codes (tabW Try.prog L) := codesOf rfl
end Go.Proofs.Ytjidefnbancmfaa

/- The law's beginning, carried out. -/
namespace Go.Proofs.Ytjidefnbancmfaa
open Go.AE
theorem run27 : isTrue (xCall (baseT Try.prog) (xRunK (baseT Try.prog) 100000) 27 [] AW.empty) = true := by kernel_rfl
theorem good27 (aw : AW) : GoodC Try.prog 27 [] aw (.bool true) aw := begun_good ⟨_, Try.func27, by kernel_rfl, by decide +kernel⟩ run27 aw
end Go.Proofs.Ytjidefnbancmfaa
