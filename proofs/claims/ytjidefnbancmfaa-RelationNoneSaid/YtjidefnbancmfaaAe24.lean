/- AE, part 24: regions whose order is drawn are good. -/
import Derived.Test.YtjidefnbancmfaaAe23
set_option linter.unusedVariables false
set_option linter.unusedSimpArgs false
namespace Go.AE

section
variable {P : Program} {tab : Tab}

def GoodOne (P : Program) (o : AOper) (fr : Fr) (aw : AW) (v : V) (aw1 : AW) : Prop :=
  ∀ (ops : Array Oper) (N i : Nat) (o' : Oper), ops[i]? = some o' → cOper P N ops o' = some o → ∀ (a : Act) (w : World) (m : Map) (base : Nat) (Q : Exit → Act → World → Prop) (K : Act → World → Prop), FR m N fr a.tmps → R aw w m base →
    (∀ (w' : World) (m' : Map) (v' : Value), VR m' v v' → R aw1 w' m' base → Goes aw aw1 w w' m m' → K (a.put o.dst v') w') → wpOp P ops Q i K a w
def OneG (P : Program) (o : AOper) (fr : Fr) (aw : AW) (v : V) (aw1 : AW) : Prop :=
  GoodOne P o fr aw v aw1 ∧ (o.op.quiet = true → aw1 = aw) ∧ (wanted fr o.guard = some false → v = .undef)

theorem goodOne_pass {o : AOper} {fr : Fr} {aw : AW} (hw : wanted fr o.guard = some false) : GoodOne P o fr aw .undef aw := by
  intro ops N i o' ho hc a w m base Q K hfr hR hK
  obtain ⟨g1, g2, g3, g4⟩ := cOper_inv hc
  have hwant := wanted_ok hfr g1 hw
  simp only [wpOp, ho, hwant, Bool.false_eq_true, if_false]
  rw [← g3]
  exact hK w m undef rfl hR (.refl _ _ _)
theorem goodOne_val {o : AOper} {fr : Fr} {aw aw1 : AW} {v : V} (hw : wanted fr o.guard = some true) (ha : aop o.op fr aw = some (.val v, aw1)) : GoodOne P o fr aw v aw1 := by
  intro ops N i o' ho hc a w m base Q K hfr hR hK
  obtain ⟨g1, g2, g3, g4⟩ := cOper_inv hc
  have hwant := wanted_ok hfr g1 hw
  obtain ⟨v', w', m', k1, k2, k3, k4⟩ := aop_okS (o := o') hR hfr g2 ha
  simp only [wpOp, ho, hwant, if_true]
  refine .inl ?_
  simp only [Oper.wp, k1, Oper.upon_value]
  rw [← g3]
  exact hK w' m' v' k2 k3 k4
theorem goodOne_skip {o : AOper} {fr : Fr} {aw aw1 : AW} (hw : wanted fr o.guard = some true) (ha : aop o.op fr aw = some (.skip, aw1)) : GoodOne P o fr aw .undef aw1 := by
  intro ops N i o' ho hc a w m base Q K hfr hR hK
  obtain ⟨g1, g2, g3, g4⟩ := cOper_inv hc
  have hwant := wanted_ok hfr g1 hw
  obtain ⟨w', m', k1, k3, k4⟩ := aop_okS (o := o') hR hfr g2 ha
  simp only [wpOp, ho, hwant, if_true]
  refine .inl ?_
  simp only [Oper.wp, k1, Oper.upon_skip]
  rw [← g3]
  exact hK w' m' undef rfl k3 k4
theorem goodOne_call {o : AOper} {fr : Fr} {aw aw0 aw1 : AW} {f : Nat} {args : List V} {v : V} (hw : wanted fr o.guard = some true) (ha : aop o.op fr aw = some (.call f args, aw0)) (hg : GoodC P f args aw0 v aw1) : GoodOne P o fr aw v aw1 := by
  intro ops N i o' ho hc a w m base Q K hfr hR hK
  obtain ⟨g1, g2, g3, g4⟩ := cOper_inv hc
  have hwant := wanted_ok hfr g1 hw
  obtain ⟨rfl, args', k1, k2⟩ := aop_okS (o := o') hR hfr g2 ha
  simp only [wpOp, ho, hwant, if_true]
  refine .inl ?_
  simp only [Oper.wp, k1, callFunc_enter hg.1, Oper.upon_enter]
  refine (hg.2 w m base args' hR k2).mono ?_
  rintro e w' ⟨v', m', rfl, q1, q2, q3⟩
  show K _ _
  rw [← g3]
  exact hK w' m' v' q1 q2 q3
theorem goodOne_ext (T : TabOK P tab) {o : AOper} {fr : Fr} {aw aw0 : AW} {f : Nat} {args : List V} {v : V} (hw : wanted fr o.guard = some true) (ha : aop o.op fr aw = some (.call f args, aw0)) (hx : tab.ext f args aw0 v) : GoodOne P o fr aw v aw0 := by
  intro ops N i o' ho hc a w m base Q K hfr hR hK
  obtain ⟨g1, g2, g3, g4⟩ := cOper_inv hc
  have hwant := wanted_ok hfr g1 hw
  obtain ⟨rfl, args', k1, k2⟩ := aop_okS (o := o') hR hfr g2 ha
  obtain ⟨v', q1, q2⟩ := T.ext f args _ v hx w m base args' hR k2
  simp only [wpOp, ho, hwant, if_true]
  refine .inl ?_
  simp only [Oper.wp, k1, q1, Oper.upon_value]
  rw [← g3]
  exact hK w m v' q2 hR (.refl _ _ _)

/-! what a pass through the operations, in the order in which they stand, tells. -/
def FrAt (l : List DOper) (st : List Stp) (fr : Fr) (i : Nat) (x : Nat) (v : V) : Prop :=
  (∃ (k : Nat) (dk : DOper) (sk : Stp), k < i ∧ l[k]? = some dk ∧ st[k]? = some sk ∧ dk.op.dst = some x ∧ sk.v = v) ∨ ((∀ (k : Nat) (dk : DOper), k < i → l[k]? = some dk → dk.op.dst ≠ some x) ∧ fr.get x = some v)
def EpAt (l : List DOper) (st : List Stp) (aw : AW) (i : Nat) (x : AW) : Prop :=
  ((∀ (e : Nat) (de : DOper), e < i → l[e]? = some de → de.eff = false) ∧ x = aw) ∨
  ∃ (e : Nat) (de : DOper) (se : Stp), e < i ∧ l[e]? = some de ∧ de.eff = true ∧ st[e]? = some se ∧ x = se.aw1 ∧ ∀ (e' : Nat) (de' : DOper), e < e' → e' < i → l[e']? = some de' → de'.eff = false
structure PassG (P : Program) (l : List DOper) (fr : Fr) (aw : AW) (st : List Stp) (fr' : Fr) (aw' : AW) : Prop where
  len : st.length = l.length
  one : ∀ (i : Nat) (d : DOper) (s : Stp), l[i]? = some d → st[i]? = some s → OneG P d.op s.fe s.aw0 s.v s.aw1
  fe : ∀ (i : Nat) (d : DOper) (s : Stp) (x : Nat) (v : V), l[i]? = some d → st[i]? = some s → s.fe.get x = some v → x ∉ d.hide ∧ FrAt l st fr i x v
  ep : ∀ (i : Nat) (d : DOper) (s : Stp), l[i]? = some d → st[i]? = some s → EpAt l st aw i s.aw0
  fin : ∀ (x : Nat) (v : V), fr'.get x = some v → FrAt l st fr l.length x v
  epFin : EpAt l st aw l.length aw'

theorem FrAt.cons {d : DOper} {s : Stp} {l : List DOper} {st : List Stp} {fr : Fr} {i x : Nat} {v : V} (h : FrAt l st (putO fr d.op.dst s.v) i x v) : FrAt (d :: l) (s :: st) fr (i + 1) x v := by
  rcases h with ⟨k, dk, sk, h1, h2, h3, h4, h5⟩ | ⟨h1, h2⟩
  · exact .inl ⟨k + 1, dk, sk, by omega, by simpa using h2, by simpa using h3, h4, h5⟩
  · have tail : ∀ k dk, k < i → l[k]? = some dk → dk.op.dst ≠ some x := h1
    cases hd : d.op.dst with
    | none =>
      rw [hd] at h2
      refine .inr ⟨fun k dk hk hl => ?_, h2⟩
      cases k with
      | zero => simp at hl; subst hl; rw [hd]; simp
      | succ k => exact tail k dk (by omega) (by simpa using hl)
    | some y =>
      rw [hd] at h2
      rcases T.get_put h2 with ⟨rfl, rfl⟩ | ⟨q1, q2⟩
      · exact .inl ⟨0, d, s, by omega, rfl, rfl, hd, rfl⟩
      · refine .inr ⟨fun k dk hk hl => ?_, q2⟩
        cases k with
        | zero => simp at hl; subst hl; rw [hd]; simp; omega
        | succ k => exact tail k dk (by omega) (by simpa using hl)
theorem EpAt.cons {d : DOper} {s : Stp} {l : List DOper} {st : List Stp} {aw : AW} {i : Nat} {x : AW} (hq : d.eff = false → s.aw1 = aw) (h : EpAt l st s.aw1 i x) : EpAt (d :: l) (s :: st) aw (i + 1) x := by
  rcases h with ⟨h1, rfl⟩ | ⟨e, de, se, h1, h2, h3, h4, h5, h6⟩
  · cases hd : d.eff with
    | false =>
      refine .inl ⟨fun e de he hl => ?_, hq hd⟩
      cases e with
      | zero => simp at hl; subst hl; exact hd
      | succ e => exact h1 e de (by omega) (by simpa using hl)
    | true =>
      refine .inr ⟨0, d, s, by omega, rfl, hd, rfl, rfl, fun e' de' h2 h3 hl => ?_⟩
      cases e' with
      | zero => omega
      | succ e' => exact h1 e' de' (by omega) (by simpa using hl)
  · refine .inr ⟨e + 1, de, se, by omega, by simpa using h2, h3, by simpa using h4, h5, fun e' de' h7 h8 hl => ?_⟩
    cases e' with
    | zero => omega
    | succ e' => exact h6 e' de' (by omega) (by omega) (by simpa using hl)
theorem PassG.nil {fr : Fr} {aw : AW} : PassG P [] fr aw [] fr aw where
  len := rfl
  one i d s h := by simp at h
  fe i d s x v h := by simp at h
  ep i d s h := by simp at h
  fin x v h := .inr ⟨fun k dk hk => by simp at hk, h⟩
  epFin := .inl ⟨fun e de he => by simp at he, rfl⟩
theorem PassG.cons {d : DOper} {l : List DOper} {fr : Fr} {aw : AW} {v : V} {aw1 : AW} {st : List Stp} {fr' : Fr} {aw' : AW} (hq : d.eff = true ∨ d.op.op.quiet = true) (h1 : OneG P d.op (hideL fr d.hide) aw v aw1) (h : PassG P l (putO fr d.op.dst v) aw1 st fr' aw') :
    PassG P (d :: l) fr aw (⟨hideL fr d.hide, v, aw, aw1⟩ :: st) fr' aw' := by
  have hq' : d.eff = false → aw1 = aw := fun he => by
    rcases hq with hq | hq
    · rw [hq] at he; cases he
    · exact h1.2.1 hq
  exact {
    len := by simp [h.len]
    one := fun i d' s hl hs => by
      cases i with
      | zero => simp at hl hs; subst hl hs; exact h1
      | succ i => exact h.one i d' s (by simpa using hl) (by simpa using hs)
    fe := fun i d' s x u hl hs hg => by
      cases i with
      | zero =>
        simp at hl hs; subst hl hs
        obtain ⟨q1, q2⟩ := hideL_get hg
        exact ⟨q1, .inr ⟨fun k dk hk => by omega, q2⟩⟩
      | succ i =>
        obtain ⟨q1, q2⟩ := h.fe i d' s x u (by simpa using hl) (by simpa using hs) hg
        exact ⟨q1, q2.cons (s := ⟨hideL fr d.hide, v, aw, aw1⟩)⟩
    ep := fun i d' s hl hs => by
      cases i with
      | zero => simp at hl hs; subst hl hs; exact .inl ⟨fun e de he => by omega, rfl⟩
      | succ i => exact (h.ep i d' s (by simpa using hl) (by simpa using hs)).cons (s := ⟨hideL fr d.hide, v, aw, aw1⟩) hq'
    fin := fun x u hg => (h.fin x u hg).cons (s := ⟨hideL fr d.hide, v, aw, aw1⟩)
    epFin := h.epFin.cons (s := ⟨hideL fr d.hide, v, aw, aw1⟩) hq' }
end
end Go.AE
