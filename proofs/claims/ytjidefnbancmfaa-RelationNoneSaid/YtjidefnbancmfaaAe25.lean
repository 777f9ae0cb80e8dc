/- AE, part 25: regions whose order is drawn: every order comes to the same. -/
import Derived.Test.YtjidefnbancmfaaAe24
set_option linter.unusedVariables false
set_option linter.unusedSimpArgs false
namespace Go.AE

/-! the tests, told as propositions -/
structure DFacts (l : List DOper) (af : List (List Nat)) : Prop where
  after : ∀ (j : Nat) (y : DOper), l[j]? = some y → ∃ a, af[j]? = some a ∧ (∀ x, x ∈ a → x < j) ∧ (∀ x, x ∈ y.anc → x < j ∧ (x ∈ a ∨ ∃ (k : Nat) (z : DOper), k ∈ a ∧ l[k]? = some z ∧ x ∈ z.anc)) ∧ (y.eff = true ∨ y.op.op.quiet = true)
  eff : ∀ (i j : Nat) (x y : DOper), i < j → l[i]? = some x → l[j]? = some y → x.eff = true → y.eff = true → i ∈ y.anc
  hide : ∀ (i j : Nat) (x y : DOper) (d : Nat), l[i]? = some x → l[j]? = some y → i ≠ j → i ∉ y.anc → j ∉ x.anc → x.op.dst = some d → d ∈ y.hide
  dst : ∀ (i j : Nat) (x y : DOper) (d : Nat), l[i]? = some x → l[j]? = some y → i ≠ j → x.op.dst = some d → y.op.dst ≠ some d
theorem lt_of_get {α : Type} {l : List α} {i : Nat} {x : α} (h : l[i]? = some x) : i < l.length := (List.getElem?_eq_some_iff.1 h).1
theorem dFacts {l : List DOper} {af : List (List Nat)} (h : dOK l af = true) : DFacts l af := by
  have H : ∀ j y, l[j]? = some y → ∃ a, af[j]? = some a ∧ dOne l j y a = true ∧ ∀ i x, i < j → l[i]? = some x → dPair i x j y = true := by
    intro j y hj
    simp only [dOK, List.all_eq_true, List.mem_range] at h
    have := h j (lt_of_get hj)
    simp only [hj] at this
    split at this
    · rename_i y' a hy' ha
      cases hy'
      simp only [Bool.and_eq_true, List.all_eq_true, List.mem_range] at this
      refine ⟨a, ha, this.1, fun i x hi hx => ?_⟩
      have := this.2 i hi
      simpa only [hx] using this
    · cases this
  have one : ∀ (j : Nat) (y : DOper), l[j]? = some y → ∃ a, af[j]? = some a ∧ (∀ x, x ∈ a → x < j) ∧ (∀ x, x ∈ y.anc → x < j ∧ (x ∈ a ∨ ∃ (k : Nat) (z : DOper), k ∈ a ∧ l[k]? = some z ∧ x ∈ z.anc)) ∧ (y.eff = true ∨ y.op.op.quiet = true) := by
    intro j y hj
    obtain ⟨a, h1, h2, _⟩ := H j y hj
    simp only [dOne, Bool.and_eq_true, List.all_eq_true, Bool.or_eq_true, memN_iff, List.any_eq_true] at h2
    refine ⟨a, h1, fun x hx => Nat.blt_eq.mp (h2.1.1 x hx), fun x hx => ?_, h2.2⟩
    obtain ⟨q1, q2⟩ := h2.1.2 x hx
    refine ⟨Nat.blt_eq.mp q1, q2.imp id ?_⟩
    rintro ⟨k, hk, q3⟩
    split at q3
    · rename_i z hz; exact ⟨k, z, hk, hz, memN_iff.1 q3⟩
    · cases q3
  have pair : ∀ (i j : Nat) (x y : DOper), i < j → l[i]? = some x → l[j]? = some y →
      (i ∈ y.anc ∨ (¬ (x.eff = true ∧ y.eff = true) ∧ (∀ d, y.op.dst = some d → d ∈ x.hide) ∧ (∀ d, x.op.dst = some d → d ∈ y.hide))) ∧ (∀ d, x.op.dst = some d → y.op.dst ≠ some d) := by
    intro i j x y hij hi hj
    obtain ⟨a, _, _, h3⟩ := H j y hj
    have h4 := h3 i x hij hi
    simp only [dPair, Bool.and_eq_true] at h4
    refine ⟨?_, fun d hd hd' => ?_⟩
    · have h5 := h4.1
      split at h5
      · rename_i hm; exact .inl (memN_iff.1 hm)
      · refine .inr ?_
        simp only [Bool.and_eq_true, Bool.not_eq_true', Bool.and_eq_false_iff] at h5
        refine ⟨fun hc => ?_, fun d hd => ?_, fun d hd => ?_⟩
        · rcases h5.1.1 with q | q
          · rw [hc.1] at q; cases q
          · rw [hc.2] at q; cases q
        · have := h5.1.2; rw [hd] at this; exact memN_iff.1 this
        · have := h5.2; rw [hd] at this; exact memN_iff.1 this
    · have h5 := h4.2
      rw [hd, hd'] at h5
      simp at h5
  refine ⟨one, fun i j x y hij hi hj hx hy => ?_, fun i j x y d hi hj hne h1 h2 hd => ?_, fun i j x y d hi hj hne hd hd' => ?_⟩
  · rcases (pair i j x y hij hi hj).1 with h | h
    · exact h
    · exact absurd ⟨hx, hy⟩ h.1
  · rcases Nat.lt_or_gt_of_ne hne with hlt | hlt
    · rcases (pair i j x y hlt hi hj).1 with h | h
      · exact absurd h h1
      · exact h.2.2 d hd
    · rcases (pair j i y x hlt hj hi).1 with h | h
      · exact absurd h h2
      · exact h.2.1 d hd
  · rcases Nat.lt_or_gt_of_ne hne with hlt | hlt
    · exact (pair i j x y hlt hi hj).2 d hd hd'
    · exact (pair j i y x hlt hj hi).2 d hd' hd

theorem drawnOK_spec {l : List DOper} {st : List Stp} (h : drawnOK l st = true) {i e : Nat} {d de : DOper} {s se : Stp} (hl : l[i]? = some d) (hs : st[i]? = some s) (hle : l[e]? = some de) (hse : st[e]? = some se)
    (hd : d.eff = false) (hde : de.eff = true) (h1 : i ∉ de.anc) (h2 : e ∉ d.anc) : againOK d s se.aw0 = true ∧ againOK d s se.aw1 = true := by
  simp only [drawnOK, List.all_eq_true, List.mem_range] at h
  have := h i (lt_of_get hl)
  simp only [hl, hs, hd, Bool.false_or, List.all_eq_true, List.mem_range] at this
  have := this e (lt_of_get hle)
  simp only [hle, hse, hde, Bool.not_true, Bool.false_or, Bool.or_eq_true, Bool.and_eq_true] at this
  rcases this with (q | q) | q
  · exact absurd (memN_iff.1 q) h1
  · exact absurd (memN_iff.1 q) h2
  · exact q

/-- how many are not listed. -/
def unl : List Bool → Nat
  | [] => 0
  | true :: l => unl l
  | false :: l => unl l + 1
theorem unl_set : ∀ {l : List Bool} {i : Nat}, l[i]? = some false → unl (l.set i true) + 1 = unl l
  | [], i, h => by simp at h
  | b :: l, 0, h => by simp at h; subst h; rfl
  | b :: l, i + 1, h => by
    have := unl_set (l := l) (i := i) (by simpa using h)
    cases b <;> simp only [List.set_cons_succ, unl] <;> omega
theorem unl_zero : ∀ {l : List Bool} {i : Nat}, unl l = 0 → l[i]? ≠ some false
  | [], i, h => by simp
  | true :: l, 0, h => by simp
  | false :: l, i, h => by simp [unl] at h
  | true :: l, i + 1, h => by simpa using unl_zero (l := l) (i := i) h
theorem unl_replicate : ∀ (n : Nat), unl (List.replicate n false) = n
  | 0 => rfl
  | n + 1 => by simp [List.replicate_succ, unl, unl_replicate n]

theorem least {p : Nat → Prop} (h : ∃ n, p n) : ∃ n, p n ∧ ∀ k, k < n → ¬ p k := by
  obtain ⟨n, hn⟩ := h
  induction n using Nat.strongRecOn with
  | ind n ih =>
    by_cases hc : ∃ k, k < n ∧ p k
    · obtain ⟨k, h1, h2⟩ := hc; exact ih k h1 h2
    · exact ⟨n, hn, fun k hk hp => hc ⟨k, hk, hp⟩⟩

section
variable {P : Program} {tab : Tab}

/-- what is listed. -/
def LD (D : Array Bool) (i : Nat) : Prop := D.getD i false = true
theorem LD_set {D : Array Bool} {i j : Nat} (hi : i < D.size) : LD (D.setIfInBounds i true) j ↔ LD D j ∨ j = i := by
  unfold LD
  by_cases hij : j = i
  · subst hij; simp [hi]
  · simp [Array.getElem?_setIfInBounds_ne (Ne.symm hij), hij]
def Slot (l : List DOper) (st : List Stp) (fr : Fr) (D : Array Bool) (y : Nat) (v : V) : Prop :=
  (∃ (k : Nat) (dk : DOper) (sk : Stp), LD D k ∧ l[k]? = some dk ∧ st[k]? = some sk ∧ dk.op.dst = some y ∧ sk.v = v) ∨ ((∀ (k : Nat) (dk : DOper), LD D k → l[k]? = some dk → dk.op.dst ≠ some y) ∧ fr.get y = some v)
def Ep (l : List DOper) (st : List Stp) (aw : AW) (D : Array Bool) (x : AW) : Prop :=
  ((∀ (e : Nat) (de : DOper), LD D e → l[e]? = some de → de.eff = false) ∧ x = aw) ∨
  ∃ (e : Nat) (de : DOper) (se : Stp), LD D e ∧ l[e]? = some de ∧ de.eff = true ∧ st[e]? = some se ∧ x = se.aw1 ∧ ∀ (e' : Nat) (de' : DOper), LD D e' → l[e']? = some de' → de'.eff = true → e' ≤ e
structure St (l : List DOper) (st : List Stp) (fr : Fr) (aw : AW) (N : Nat) (a0 : Act) (w0 : World) (m0 : Map) (base : Nat) (D : Array Bool) (a : Act) (w : World) (m : Map) (x : AW) : Prop where
  R : R x w m base
  goes : Goes aw x w0 w m0 m
  defers : a.defers = a0.defers
  size : a.tmps.size = N
  slot : ∀ (y : Nat) (v : V), Slot l st fr D y v → ∃ v', a.tmps[y]? = some v' ∧ VR m v v'
  ep : Ep l st aw D x
def Closed (l : List DOper) (D : Array Bool) : Prop := ∀ (i : Nat) (d : DOper) (x : Nat), LD D i → l[i]? = some d → x ∈ d.anc → LD D x

theorem step_ok {l : List DOper} {st : List Stp} {fr fr' : Fr} {aw aw' : AW} {ops : Array Oper} {N : Nat} (hG : PassG P l fr aw st fr' aw') (hF : DFacts l (aftersOf ops)) (hA : drawnOK l st = true)
    (hlen : l.length = ops.size) (hop : ∀ (i : Nat) (d : DOper), l[i]? = some d → ∃ o', ops[i]? = some o' ∧ cOper P N ops o' = some d.op)
    {a0 : Act} {w0 : World} {m0 : Map} {base : Nat} (hR0 : R aw w0 m0 base) {D : Array Bool} (hD : D.size = ops.size) (hcl : Closed l D) {i : Nat} (hi : i ∈ Region.ready .any ops D)
    {a : Act} {w : World} {m : Map} {x : AW} (hS : St l st fr aw N a0 w0 m0 base D a w m x) (Q : Exit → Act → World → Prop) (K : Act → World → Prop)
    (hK : Closed l (D.setIfInBounds i true) → ∀ a' w' m' x', St l st fr aw N a0 w0 m0 base (D.setIfInBounds i true) a' w' m' x' → K a' w') : wpOp P ops Q i K a w := by
  obtain ⟨hun, o', ho', haf⟩ := mem_ready.1 hi
  have hilt : i < ops.size := (Array.getElem?_eq_some_iff.1 ho').1
  have hnot : ¬ LD D i := fun hl => by
    unfold LD at hl
    have hiD : i < D.size := by omega
    simp [hiD] at hun hl
    rw [hun] at hl; cases hl
  obtain ⟨d, hd⟩ : ∃ d, l[i]? = some d := ⟨l[i]'(by omega), List.getElem?_eq_getElem (by omega)⟩
  obtain ⟨s, hs⟩ : ∃ s, st[i]? = some s := ⟨st[i]'(by rw [hG.len]; omega), List.getElem?_eq_getElem (by rw [hG.len]; omega)⟩
  obtain ⟨o2, ho2, hco⟩ := hop i d hd
  rw [ho'] at ho2; cases ho2
  obtain ⟨af, haf1, haf2, hanc, hquiet⟩ := hF.after i d hd
  have hafin : ∀ k, k ∈ af → LD D k := by
    intro k hk
    simp only [aftersOf, List.getElem?_map, Array.getElem?_toList, ho', Option.map_some, Option.some.injEq] at haf1
    subst haf1
    simp only [List.mem_map, List.mem_filter] at hk
    obtain ⟨e, ⟨he, hb⟩, rfl⟩ := hk
    exact haf e (by simpa using he) hb
  have hancD : ∀ k, k ∈ d.anc → LD D k := by
    intro k hk
    rcases (hanc k hk).2 with h | ⟨j, z, h1, h2, h3⟩
    · exact hafin k h
    · exact hcl j z k (hafin j h1) h2 h3
  have hdesc : ∀ k dk, LD D k → l[k]? = some dk → i ∉ dk.anc := fun k dk hk hl hm => hnot (hcl k dk i hk hl hm)
  have hiD : i < D.size := by omega
  have hcl' : Closed l (D.setIfInBounds i true) := by
    intro j dj y hj hl hy
    rw [LD_set hiD] at hj ⊢
    rcases hj with hj | rfl
    · exact .inl (hcl j dj y hj hl hy)
    · rw [hd] at hl; cases hl
      exact .inl (hancD y hy)
  have hslot : ∀ y v, s.fe.get y = some v → Slot l st fr D y v := by
    intro y v hy
    obtain ⟨h1, h2⟩ := hG.fe i d s y v hd hs hy
    rcases h2 with ⟨k, dk, sk, hk, h3, h4, h5, h6⟩ | ⟨h3, h4⟩
    · refine .inl ⟨k, dk, sk, ?_, h3, h4, h5, h6⟩
      by_cases hm : k ∈ d.anc
      · exact hancD k hm
      · refine absurd (hF.hide k i dk d y h3 hd (by omega) hm (fun hx => ?_) h5) h1
        obtain ⟨_, _, _, q, _⟩ := hF.after k dk h3
        have := (q i hx).1
        omega
    · refine .inr ⟨fun k dk hk hl hdst => ?_, h4⟩
      have hki : k ≠ i := fun h => hnot (h ▸ hk)
      rcases Nat.lt_or_gt_of_ne hki with hlt | hgt
      · exact h3 k dk hlt hl hdst
      · refine absurd (hF.hide k i dk d y hl hd hki (fun hx => ?_) (hdesc k dk hk hl) hdst) h1
        have := (hanc k hx).1
        omega
  have hfr : FR m N s.fe a.tmps := ⟨hS.size, fun y v hy => hS.slot y v (hslot y v hy)⟩
  -- what the operation leaves
  have after : ∀ (x' : AW), (d.eff = true → x' = s.aw1 ∧ x = s.aw0) → (d.eff = false → x' = x) → ∀ (w' : World) (m' : Map) (v' : Value), VR m' s.v v' → R x' w' m' base → Goes x x' w w' m m' → K (a.put d.op.dst v') w' := by
    intro x' he hne w' m' v' hv hR' hg
    refine hK hcl' _ w' m' x' ⟨hR', Goes.trans hR0 hS.goes hg, put_defers.trans hS.defers, ?_, ?_, ?_⟩
    · cases d.op.dst <;> simp [Act.put, hS.size]
    · intro y v hsl
      have old : ∀ v, Slot l st fr D y v → d.op.dst ≠ some y → ∃ v2, (a.put d.op.dst v').tmps[y]? = some v2 ∧ VR m' v v2 := by
        intro v hsl hne
        obtain ⟨v2, q1, q2⟩ := hS.slot y v hsl
        refine ⟨v2, ?_, q2.mono hg.le⟩
        cases hdst : d.op.dst with
        | none => exact q1
        | some t =>
          have : t ≠ y := fun h => hne (by rw [hdst, h])
          simp [Act.put, Array.getElem?_setIfInBounds_ne this, q1]
      rcases hsl with ⟨k, dk, sk, hk, h3, h4, h5, h6⟩ | ⟨h3, h4⟩
      · rw [LD_set hiD] at hk
        by_cases hki : k = i
        · subst hki
          rw [hd] at h3; cases h3
          rw [hs] at h4; cases h4
          refine ⟨v', ?_, h6 ▸ hv⟩
          have hlt : y < N := by
            obtain ⟨_, _, q3, q4⟩ := cOper_inv hco
            rw [← q3, h5] at q4
            exact Nat.blt_eq.mp q4
          rw [h5]
          simp [Act.put, hS.size, hlt]
        · refine old v (.inl ⟨k, dk, sk, hk.resolve_right hki, h3, h4, h5, h6⟩) (hF.dst k i dk d y h3 hd hki h5)
      · refine old v (.inr ⟨fun k dk hk hl => h3 k dk ((LD_set hiD).2 (.inl hk)) hl, h4⟩) (h3 i d ((LD_set hiD).2 (.inr rfl)) hd)
    · cases heff : d.eff with
      | false =>
        rw [hne heff]
        rcases hS.ep with ⟨h1, h2⟩ | ⟨e, de, se, h1, h2, h3, h4, h5, h6⟩
        · refine .inl ⟨fun e de hle hl => ?_, h2⟩
          rcases (LD_set hiD).1 hle with h | rfl
          · exact h1 e de h hl
          · rw [hd] at hl; cases hl; exact heff
        · refine .inr ⟨e, de, se, (LD_set hiD).2 (.inl h1), h2, h3, h4, h5, fun e' de' hle hl hef => ?_⟩
          rcases (LD_set hiD).1 hle with h | rfl
          · exact h6 e' de' h hl hef
          · rw [hd] at hl; cases hl; rw [heff] at hef; cases hef
      | true =>
        refine .inr ⟨i, d, s, (LD_set hiD).2 (.inr rfl), hd, heff, hs, (he heff).1, fun e' de' hle hl hef => ?_⟩
        rcases (LD_set hiD).1 hle with h | rfl
        · rcases Nat.lt_or_ge i e' with hlt | hge
          · exact absurd (hF.eff i e' d de' hlt hd hl heff hef) (hdesc e' de' h hl)
          · exact hge
        · exact Nat.le_refl _
  -- which moment it is
  have epi := hG.ep i d s hd hs
  have noLater : ∀ e de, LD D e → l[e]? = some de → de.eff = true → d.eff = true → e < i := by
    intro e de he hl hef hdf
    rcases Nat.lt_or_ge e i with h | h
    · exact h
    · have hne : i ≠ e := fun h' => hnot (h' ▸ he)
      exact absurd (hF.eff i e d de (by omega) hd hl hdf hef) (hdesc e de he hl)
  cases heff : d.eff with
  | true =>
    have hx : x = s.aw0 := by
      rcases epi with ⟨p1, p2⟩ | ⟨e, de, se, p1, p2, p3, p4, p5, p6⟩
      · rcases hS.ep with ⟨h1, h2⟩ | ⟨e, de, se, h1, h2, h3, h4, h5, h6⟩
        · rw [h2, p2]
        · have := p1 e de (noLater e de h1 h2 h3 heff) h2
          rw [h3] at this; cases this
      · have heD : LD D e := hancD e (hF.eff e i de d p1 p2 hd p3 heff)
        rcases hS.ep with ⟨h1, h2⟩ | ⟨e', de', se', h1, h2, h3, h4, h5, h6⟩
        · have := h1 e de heD p2
          rw [p3] at this; cases this
        · have hle := h6 e de heD p2 p3
          have hlt := noLater e' de' h1 h2 h3 heff
          have : e' = e := by
            rcases Nat.lt_or_ge e e' with h | h
            · have := p6 e' de' h hlt h2; rw [h3] at this; cases this
            · omega
          subst this
          rw [p4] at h4; cases h4
          rw [h5, p5]
    subst hx
    exact (hG.one i d s hd hs).1 ops N i o' ho' hco a w m base Q K hfr hS.R (after s.aw1 (fun _ => ⟨rfl, rfl⟩) (fun h => by rw [heff] at h; cases h))
  | false =>
    have hq : d.op.op.quiet = true := hquiet.resolve_left (by rw [heff]; simp)
    obtain ⟨g1, g2, g3⟩ := hG.one i d s hd hs
    have fin := after x (fun h => by rw [heff] at h; cases h) (fun _ => rfl)
    have again : againOK d s x = true → wpOp P ops Q i K a w := by
      intro hag
      unfold againOK at hag
      split at hag
      · rename_i hw
        have hu := g3 hw
        rw [hu] at fin
        exact goodOne_pass hw ops N i o' ho' hco a w m base Q K hfr hS.R fin
      · rename_i hw
        split at hag
        · rename_i v aw2 hv
          have := V.beq_eq hag
          subst this
          obtain ⟨q1, _⟩ := quiet_ok hq hv
          subst q1
          exact goodOne_val hw hv ops N i o' ho' hco a w m base Q K hfr hS.R fin
        · cases hag
      · cases hag
    have same : x = s.aw0 → wpOp P ops Q i K a w := by
      intro hx
      subst hx
      have := g2 hq
      rw [this] at g1
      exact g1 ops N i o' ho' hco a w m base Q K hfr hS.R fin
    rcases hS.ep with ⟨h1, h2⟩ | ⟨e', de', se', h1, h2, h3, h4, h5, h6⟩
    · -- no effect yet
      by_cases hno : ∀ (e : Nat) (de : DOper), e < i → l[e]? = some de → de.eff = false
      · refine same ?_
        rcases epi with ⟨p1, p2⟩ | ⟨e, de, se, p1, p2, p3, p4, p5, p6⟩
        · rw [h2, p2]
        · have := hno e de p1 p2; rw [p3] at this; cases this
      · -- the first effect
        have hex : ∃ e, e < i ∧ ∃ de, l[e]? = some de ∧ de.eff = true := by
          refine Classical.byContradiction fun hc => hno fun e de he hl => ?_
          cases hb : de.eff with
          | false => rfl
          | true => exact absurd ⟨e, he, de, hl, hb⟩ hc
        obtain ⟨e, ⟨hei, de, hle, hef⟩, hmin⟩ := least hex
        obtain ⟨se, hse⟩ : ∃ s, st[e]? = some s := ⟨st[e]'(by rw [hG.len]; omega), List.getElem?_eq_getElem (by rw [hG.len]; omega)⟩
        have h0 : se.aw0 = aw := by
          rcases hG.ep e de se hle hse with ⟨p1, p2⟩ | ⟨e2, de2, se2, p1, p2, p3, p4, p5, p6⟩
          · exact p2
          · exact absurd ⟨by omega, de2, p2, p3⟩ (hmin e2 p1)
        have hnD : ¬ LD D e := fun hl => by have := h1 e de hl hle; rw [hef] at this; cases this
        have hk := drawnOK_spec hA hd hs hle hse heff hef (fun hx => by
          obtain ⟨_, _, _, q, _⟩ := hF.after e de hle
          have := (q i hx).1
          omega) (fun hx => hnD (hancD e hx))
        rw [h0, ← h2] at hk
        exact again hk.1
    · by_cases hanc' : e' ∈ d.anc
      · have hlt := (hanc e' hanc').1
        by_cases hno : ∀ (e : Nat) (de : DOper), e' < e → e < i → l[e]? = some de → de.eff = false
        · refine same ?_
          rcases epi with ⟨p1, p2⟩ | ⟨e, de, se, p1, p2, p3, p4, p5, p6⟩
          · have := p1 e' de' hlt h2; rw [h3] at this; cases this
          · have : e = e' := by
              rcases Nat.lt_trichotomy e e' with h | h | h
              · have := p6 e' de' h hlt h2; rw [h3] at this; cases this
              · exact h
              · have := hno e de h p1 p2; rw [p3] at this; cases this
            subst this
            rw [p4] at h4; cases h4
            rw [h5, p5]
        · have hex : ∃ e, (e' < e ∧ e < i) ∧ ∃ de, l[e]? = some de ∧ de.eff = true := by
            refine Classical.byContradiction fun hc => hno fun e de he he2 hl => ?_
            cases hb : de.eff with
            | false => rfl
            | true => exact absurd ⟨e, ⟨he, he2⟩, de, hl, hb⟩ hc
          obtain ⟨e, ⟨⟨hei, hei2⟩, de, hle, hef⟩, hmin⟩ := least hex
          obtain ⟨se, hse⟩ : ∃ s, st[e]? = some s := ⟨st[e]'(by rw [hG.len]; omega), List.getElem?_eq_getElem (by rw [hG.len]; omega)⟩
          have h0 : se.aw0 = x := by
            rcases hG.ep e de se hle hse with ⟨p1, p2⟩ | ⟨e2, de2, se2, p1, p2, p3, p4, p5, p6⟩
            · have := p1 e' de' hei h2; rw [h3] at this; cases this
            · have : e2 = e' := by
                rcases Nat.lt_trichotomy e2 e' with h | h | h
                · have := p6 e' de' h hei h2; rw [h3] at this; cases this
                · exact h
                · exact absurd ⟨⟨h, by omega⟩, de2, p2, p3⟩ (hmin e2 p1)
              subst this
              rw [p4] at h4; cases h4
              rw [h5, p5]
          have hnD : ¬ LD D e := fun hl => by have := h6 e de hl hle hef; omega
          have hk := drawnOK_spec hA hd hs hle hse heff hef (fun hx => by
            obtain ⟨_, _, _, q, _⟩ := hF.after e de hle
            have := (q i hx).1
            omega) (fun hx => hnD (hancD e hx))
          rw [h0] at hk
          exact again hk.1
      · have hk := drawnOK_spec hA hd hs h2 h4 heff h3 (hdesc e' de' h1 h2) hanc'
        rw [← h5] at hk
        exact again hk.2

/-- every order. -/
theorem any_ok {l : List DOper} {st : List Stp} {fr fr' : Fr} {aw aw' : AW} {ops : Array Oper} {N : Nat} (hG : PassG P l fr aw st fr' aw') (hF : DFacts l (aftersOf ops)) (hA : drawnOK l st = true)
    (hlen : l.length = ops.size) (hop : ∀ (i : Nat) (d : DOper), l[i]? = some d → ∃ o', ops[i]? = some o' ∧ cOper P N ops o' = some d.op)
    {a0 : Act} {w0 : World} {m0 : Map} {base : Nat} (hR0 : R aw w0 m0 base) (Q : Exit → Act → World → Prop) (hQ : Post N a0 aw w0 m0 base fr' aw' (Q .normal)) :
    ∀ (fuel : Nat) (D : Array Bool) (a : Act) (w : World) (m : Map) (x : AW), D.size = ops.size → Closed l D → unl D.toList = fuel → St l st fr aw N a0 w0 m0 base D a w m x → wpAny P .any ops Q fuel D a w := by
  have done : ∀ (D : Array Bool) (a : Act) (w : World) (m : Map) (x : AW), D.size = ops.size → Closed l D → St l st fr aw N a0 w0 m0 base D a w m x → Region.ready .any ops D = [] → Q .normal a w := by
    intro D a w m x hD hcl hS hr
    have all : ∀ i, i < ops.size → LD D i := by
      intro i
      induction i using Nat.strongRecOn with
      | ind i ih =>
        intro hi
        refine Classical.byContradiction fun hn => ?_
        have : i ∈ Region.ready .any ops D := by
          rw [mem_ready]
          have hiD : i < D.size := by omega
          refine ⟨?_, ops[i], by simp [hi], fun e he hb => ?_⟩
          · unfold LD at hn
            simp [hiD] at hn ⊢
            exact hn
          · obtain ⟨d, hd⟩ : ∃ d, l[i]? = some d := ⟨l[i]'(by omega), List.getElem?_eq_getElem (by omega)⟩
            obtain ⟨af, haf1, haf2, _⟩ := hF.after i d hd
            have hm : e.on ∈ af := by
              simp only [aftersOf, List.getElem?_map, Array.getElem?_toList] at haf1
              have hoi : ops[i]? = some ops[i] := by simp [hi]
              rw [hoi] at haf1
              simp only [Option.map_some, Option.some.injEq] at haf1
              subst haf1
              simp only [List.mem_map, List.mem_filter]
              exact ⟨e, ⟨by simpa using he, hb⟩, rfl⟩
            have := haf2 _ hm
            exact ih e.on this (by omega)
        rw [hr] at this; cases this
    have hx : x = aw' := by
      rcases hS.ep with ⟨h1, h2⟩ | ⟨e, de, se, h1, h2, h3, h4, h5, h6⟩
      · rcases hG.epFin with ⟨p1, p2⟩ | ⟨e, de, se, p1, p2, p3, p4, p5, p6⟩
        · rw [h2, p2]
        · have := h1 e de (all e (by omega)) p2; rw [p3] at this; cases this
      · rcases hG.epFin with ⟨p1, p2⟩ | ⟨e2, de2, se2, p1, p2, p3, p4, p5, p6⟩
        · have := p1 e de (lt_of_get h2) h2; rw [h3] at this; cases this
        · have hle := h6 e2 de2 (all e2 (by omega)) p2 p3
          have : e = e2 := by
            rcases Nat.lt_or_ge e2 e with h | h
            · have := p6 e de h (lt_of_get h2) h2; rw [h3] at this; cases this
            · omega
          subst this
          rw [p4] at h4; cases h4
          rw [h5, p5]
    subst hx
    refine hQ a w m ⟨hS.size, fun y v hy => hS.slot y v ?_⟩ hS.defers hS.R hS.goes
    rcases hG.fin y v hy with ⟨k, dk, sk, hk, h3, h4, h5, h6⟩ | ⟨h3, h4⟩
    · exact .inl ⟨k, dk, sk, all k (by omega), h3, h4, h5, h6⟩
    · exact .inr ⟨fun k dk hk hl => h3 k dk (lt_of_get hl) hl, h4⟩
  intro fuel
  induction fuel with
  | zero =>
    intro D a w m x hD hcl hu hS
    have hr : Region.ready .any ops D = [] := by
      rw [List.eq_nil_iff_forall_not_mem]
      intro i hi
      obtain ⟨hun, o', ho', _⟩ := mem_ready.1 hi
      have hiD : i < D.size := by rw [hD]; exact (Array.getElem?_eq_some_iff.1 ho').1
      refine unl_zero hu (i := i) ?_
      simp [hiD] at hun ⊢
      exact hun
    exact ⟨hr, done D a w m x hD hcl hS hr⟩
  | succ fuel ih =>
    intro D a w m x hD hcl hu hS
    refine ⟨done D a w m x hD hcl hS, fun i hi => ?_⟩
    refine step_ok hG hF hA hlen hop hR0 hD hcl hi hS Q _ fun hcl' a' w' m' x' hS' => ?_
    refine ih _ a' w' m' x' (by simp [hD]) hcl' ?_ hS'
    obtain ⟨hun, o', ho', _⟩ := mem_ready.1 hi
    have hiD : i < D.size := by rw [hD]; exact (Array.getElem?_eq_some_iff.1 ho').1
    have := unl_set (l := D.toList) (i := i) (by simp [hiD] at hun ⊢; exact hun)
    rw [Array.toList_setIfInBounds]
    omega
end
end Go.AE
