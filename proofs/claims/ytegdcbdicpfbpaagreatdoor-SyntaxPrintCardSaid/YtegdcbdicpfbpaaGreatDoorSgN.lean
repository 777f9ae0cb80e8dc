/- A part of the proof: XPrs2, XPrs3, XPrs4, XFmt, PPar18, PPar19. -/
import Derived.Test.YtegdcbdicpfbpaaGreatDoorSgM
import Derived.Test.YtegdcbdicpfbpaaGreatDoorSgG
set_option linter.unusedVariables false
set_option linter.unusedSimpArgs false
namespace Delphi
variable (fm : Int → List Nat)
def At (ws : List Wd) (k : Nat) (l : List Wd) : Prop := l <+: ws.drop k
theorem At.head {ws l : List Wd} {k : Nat} {w : Wd} (h : At ws k (w :: l)) : ws[k]? = some w ∧ At ws (k + 1) l := by
  obtain ⟨r, hr⟩ := h
  have hlt : k < ws.length := by
    have := congrArg List.length hr
    simp at this; omega
  rw [List.drop_eq_getElem_cons hlt] at hr
  rw [List.cons_append] at hr
  injection hr with h1 h2
  exact ⟨by rw [List.getElem?_eq_getElem hlt, h1], r, h2⟩
theorem At.app {ws l m : List Wd} {k : Nat} (h : At ws k (l ++ m)) : At ws k l ∧ At ws (k + l.length) m := by
  obtain ⟨r, hr⟩ := h
  refine ⟨⟨m ++ r, by rw [← hr, List.append_assoc]⟩, r, ?_⟩
  have := congrArg (List.drop l.length) hr
  rw [List.append_assoc, List.drop_left, List.drop_drop] at this
  exact this
theorem At.le {ws l : List Wd} {k : Nat} (h : At ws k l) (hk : k ≤ ws.length) : k + l.length ≤ ws.length := by
  have := h.length_le
  rw [List.length_drop] at this; omega
def sgn (s : List Nat) : Wd := ⟨4, s, 0⟩
def tokT (t : Tm) : Wd := if t.kind = 1 then ⟨2, t.name, 0⟩ else if t.kind = 2 then ⟨1, t.name, 0⟩ else ⟨3, fm t.num, 0⟩
def argsW : List Tm → List Wd
  | [] => []
  | t :: ts => tokT fm t :: ts.flatMap fun u => [sgn [44], tokT fm u]
def atomW (nm : List Nat) (args : List Tm) : List Wd := match args with
  | [] => [⟨1, nm, 0⟩]
  | args => ⟨1, nm, 0⟩ :: sgn [40] :: (argsW fm args ++ [sgn [41]])
def cmpT (k : Nat) : List Nat := if k = 3 then [61] else if k = 4 then [33, 61] else if k = 5 then [60] else if k = 6 then [60, 61] else []
def litW (l : Lt) : List Wd :=
  if l.kind = 1 then atomW fm l.name l.args
  else if l.kind = 2 then sgn [33] :: atomW fm l.name l.args
  else match l.args with
    | [a, b] => [tokT fm a, sgn (cmpT l.kind), tokT fm b]
    | _ => []
def litsW : List Lt → List Wd
  | [] => []
  | b :: bs => litW fm b ++ bs.flatMap fun u => sgn [44] :: litW fm u
def bodyW : List Lt → List Wd
  | [] => []
  | b :: bs => sgn [58, 45] :: litsW fm (b :: bs)
def ruleW (r : Rl) : List Wd := atomW fm r.head.name r.head.args ++ (bodyW fm r.body ++ [sgn [46]])
def FmOk : Prop := ∀ n : Int, n.natAbs ≤ 2147483648 → rNum (fm n) = n.natAbs ∧ ((fm n).head? = some 45 ↔ n < 0)
def TmW (t : Tm) : Prop := (t.kind = 1 ∧ t.num = 0) ∨ (t.kind = 2 ∧ t.num = 0) ∨ (t.kind = 3 ∧ t.name = [] ∧ t.num.natAbs ≤ 2147483648)
structure LtW (l : Lt) : Prop where
  kind : (l.kind = 1 ∨ l.kind = 2) ∨ (3 ≤ l.kind ∧ l.kind ≤ 6 ∧ l.args.length = 2 ∧ l.name = [])
  tm : ∀ t ∈ l.args, TmW t
variable {fm}
theorem tokT_kind {t : Tm} (h : TmW t) : 1 ≤ (tokT fm t).kind ∧ (tokT fm t).kind ≤ 3 := by
  unfold tokT
  split
  · simp
  · split <;> simp
theorem rTerm_at (hF : FmOk fm) {ws : List Wd} {k : Nat} {t : Tm} (ht : TmW t) (h : ws[k]? = some (tokT fm t)) : rTerm ws k 0 = (t, k + 1, 0) := by
  have hn : rNext ws k 0 = some (tokT fm t) := by unfold rNext; rw [if_pos rfl, h]
  obtain ⟨kd, nm, nu⟩ := t
  unfold rTerm
  rw [hn]
  rcases ht with ⟨h1, h2⟩ | ⟨h1, h2⟩ | ⟨h1, h2, h3⟩
  · simp only at h1 h2; subst h1; subst h2
    simp [tokT]
  · simp only at h1 h2; subst h1; subst h2
    simp [tokT]
  · simp only at h1 h2 h3; subst h1; subst h2
    obtain ⟨q1, q2⟩ := hF nu h3
    simp only [tokT, Nat.reduceEqDiff, if_false, q1]
    rw [if_neg (by omega)]
    by_cases hneg : nu < 0
    · rw [if_pos (q2.2 hneg)]
      congr 2; omega
    · rw [if_neg (fun h => hneg (q2.1 h))]
      congr 2; omega
theorem rSign_at {ws : List Wd} {k : Nat} {w : Wd} {s : List Nat} (h : ws[k]? = some w) : rSign ws k s = (decide (w.kind = 4) && decide (w.text = s)) := by
  unfold rSign; rw [h]
theorem rArgs_at (hF : FmOk fm) {ws : List Wd} : ∀ (ts : List Tm) (t : Tm) (n : Nat) (args : List Tm) (k : Nat), ts.length < n → args.length ≤ 4 → (∀ u ∈ t :: ts, TmW u) → At ws k (argsW fm (t :: ts) ++ [sgn [41]]) →
    (args.length + (t :: ts).length ≤ 4 → rArgs ws n args k 0 = (args ++ t :: ts, k + (argsW fm (t :: ts)).length, 0)) ∧ (4 < args.length + (t :: ts).length → (rArgs ws n args k 0).2.2 = 8)
  | [], t, n + 1, args, k, hn, h4, hT, h => by
    have h : At ws k (tokT fm t :: [sgn [41]]) := h
    obtain ⟨h1, h2⟩ := h.head
    obtain ⟨h3, _⟩ := h2.head
    have hr := rTerm_at hF (hT t (by simp)) h1
    have hs : rSign ws (k + 1) [44] = false := by rw [rSign_at h3]; rfl
    simp only [rArgs, if_true, hr, hs, Bool.false_eq_true, if_false, true_and, List.length_cons, List.length_nil]
    constructor
    · intro hl
      rw [if_neg (by omega)]
      simp [argsW]
    · intro hl
      rw [if_pos (by omega)]
  | u :: ts, t, n + 1, args, k, hn, h4, hT, h => by
    have h : At ws k (tokT fm t :: sgn [44] :: (argsW fm (u :: ts) ++ [sgn [41]])) := by
      have e : argsW fm (t :: u :: ts) ++ [sgn [41]] = tokT fm t :: sgn [44] :: (argsW fm (u :: ts) ++ [sgn [41]]) := by simp [argsW]
      rw [← e]; exact h
    obtain ⟨h1, h2⟩ := h.head
    obtain ⟨h3, h5⟩ := h2.head
    have hr := rTerm_at hF (hT t (by simp)) h1
    have hs : rSign ws (k + 1) [44] = true := by rw [rSign_at h3]; rfl
    simp only [rArgs, if_true, hr, hs, true_and]
    by_cases hl4 : args.length = 4
    · rw [if_pos hl4]
      constructor
      · intro hl; simp only [List.length_cons] at hl; omega
      · intro _
        cases n with
        | zero => rfl
        | succ n => simp [rArgs]
    · rw [if_neg hl4]
      obtain ⟨g1, g2⟩ := rArgs_at hF ts u n (args ++ [t]) (k + 1 + 1) (by simp only [List.length_cons] at hn; omega) (by simp; omega) (fun v hv => hT v (by simp only [List.mem_cons] at hv ⊢; exact .inr hv)) h5
      have hll : (args ++ [t]).length + (u :: ts).length = args.length + (t :: u :: ts).length := by simp; omega
      rw [hll] at g1 g2
      refine ⟨fun hl => ?_, g2⟩
      rw [g1 hl]
      simp [argsW]; omega
theorem rAtom_at (hF : FmOk fm) {ws : List Wd} {k : Nat} {nm : List Nat} {args : List Tm} (hT : ∀ u ∈ args, TmW u) (h : At ws k (atomW fm nm args)) (hk : k ≤ ws.length) (hno : rSign ws (k + (atomW fm nm args).length) [40] = false) :
    (args.length ≤ 4 → rAtom ws k 0 = (⟨1, nm, args⟩, k + (atomW fm nm args).length, 0)) ∧ (4 < args.length → (rAtom ws k 0).2.2 = 8) := by
  cases args with
  | nil =>
    have h : At ws k [⟨1, nm, 0⟩] := h
    obtain ⟨h1, _⟩ := h.head
    have hn : rNext ws k 0 = some ⟨1, nm, 0⟩ := by unfold rNext; rw [if_pos rfl, h1]
    have hno : rSign ws (k + 1) [40] = false := hno
    refine ⟨fun _ => ?_, fun hh => by simp at hh⟩
    simp only [rAtom, hn, if_true, hno, Bool.false_eq_true, if_false]
    rfl
  | cons t ts =>
    have hle := h.le hk
    have h : At ws k (⟨1, nm, 0⟩ :: sgn [40] :: (argsW fm (t :: ts) ++ [sgn [41]])) := h
    obtain ⟨h1, h2⟩ := h.head
    obtain ⟨h3, h4⟩ := h2.head
    have hn : rNext ws k 0 = some ⟨1, nm, 0⟩ := by unfold rNext; rw [if_pos rfl, h1]
    have hs : rSign ws (k + 1) [40] = true := by rw [rSign_at h3]; rfl
    have hlen : (atomW fm nm (t :: ts)).length = (argsW fm (t :: ts)).length + 3 := by simp [atomW]
    have hal : ts.length < (argsW fm (t :: ts)).length := by
      simp only [argsW, List.length_cons, List.length_flatMap]
      have : ∀ l : List Tm, l.length ≤ (l.map fun u => 0 + 1 + 1).sum := by
        intro l; induction l with
        | nil => simp
        | cons x l ih => simp only [List.length_cons, List.map_cons, List.sum_cons]; omega
      simp only [List.length_nil]
      have := this ts
      omega
    obtain ⟨g1, g2⟩ := rArgs_at hF ts t (ws.length + 1) [] (k + 1 + 1) (by omega) (by simp) hT h4
    obtain ⟨_, h5⟩ := h4.app
    obtain ⟨h6, _⟩ := h5.head
    simp only [List.length_nil, Nat.zero_add, List.nil_append] at g1 g2
    have hshape : ∀ r, rArgs ws (ws.length + 1) [] (k + 1 + 1) 0 = r → rAtom ws k 0 = (⟨1, nm, r.1⟩, (rEat ws [41] r.2.1 r.2.2).1, (rEat ws [41] r.2.1 r.2.2).2) := by
      intro r hr
      simp only [rAtom, hn, if_true, hs]
      rw [show k + 2 = k + 1 + 1 from rfl, hr]
    refine ⟨fun hl => ?_, fun hl => ?_⟩
    · have hs2 : rSign ws (k + 1 + 1 + (argsW fm (t :: ts)).length) [41] = true := by rw [rSign_at h6]; rfl
      rw [hshape _ (g1 hl)]
      simp only [rEat, if_true, hs2, hlen]
      congr 2; omega
    · rw [hshape _ rfl]
      have := g2 hl
      simp only [rEat, this]
      rfl
theorem atomW_pos (nm : List Nat) (args : List Tm) : 0 < (atomW fm nm args).length := by unfold atomW; split <;> simp
theorem rCompare_cmpT {k : Nat} (h : 3 ≤ k ∧ k ≤ 6) : rCompare (cmpT k) = k := by
  obtain ⟨h1, h2⟩ := h
  have : k = 3 ∨ k = 4 ∨ k = 5 ∨ k = 6 := by omega
  rcases this with rfl | rfl | rfl | rfl <;> rfl
theorem rCmpAt_at {ws : List Wd} {k : Nat} {w : Wd} (h : ws[k]? = some w) : rCmpAt ws k = if w.kind = 4 then rCompare w.text else 0 := by
  unfold rCmpAt; rw [h]
theorem rKind_at {ws : List Wd} {k : Nat} {w : Wd} (h : ws[k]? = some w) : rKind ws k = w.kind := by
  unfold rKind; rw [h]
theorem atomW_head (nm : List Nat) (args : List Tm) : ∃ l, atomW fm nm args = ⟨1, nm, 0⟩ :: l ∧ (args ≠ [] → ∃ m, l = sgn [40] :: m) := by
  unfold atomW
  split
  · exact ⟨[], rfl, fun h => absurd rfl h⟩
  · exact ⟨_, rfl, fun _ => ⟨_, rfl⟩⟩
def Stops (ws : List Wd) (k : Nat) : Prop := rSign ws k [40] = false ∧ rCmpAt ws k = 0
theorem rLit_at (hF : FmOk fm) {ws : List Wd} {k : Nat} {l : Lt} (hl : LtW l) (h : At ws k (litW fm l)) (hk : k ≤ ws.length) (hst : Stops ws (k + (litW fm l).length)) :
    (l.args.length ≤ 4 → rLit ws k 0 = (l, k + (litW fm l).length, 0)) ∧ (4 < l.args.length → (rLit ws k 0).2.2 = 8) := by
  obtain ⟨kd, nm, args⟩ := l
  obtain ⟨hkd, hT⟩ := hl
  simp only at hkd hT
  by_cases h1 : kd = 1
  · subst h1
    have e : litW fm ⟨1, nm, args⟩ = atomW fm nm args := if_pos rfl
    rw [e] at h hst ⊢
    obtain ⟨l, hl1, hl2⟩ := atomW_head (fm := fm) nm args
    have h' := h
    rw [hl1] at h'
    obtain ⟨a1, a2⟩ := h'.head
    have hs : rSign ws k [33] = false := by rw [rSign_at a1]; rfl
    have hc : rCmpAt ws (k + 1) = 0 := by
      by_cases ha : args = []
      · have : l = [] := by subst ha; unfold atomW at hl1; injection hl1 with _ h2; exact h2.symm
        subst this
        have := hst.2
        rw [hl1] at this; exact this
      · obtain ⟨m, rfl⟩ := hl2 ha
        obtain ⟨b1, _⟩ := a2.head
        rw [rCmpAt_at b1]; rfl
    have hr : rLit ws k 0 = rAtom ws k 0 := by
      simp only [rLit, hs, Bool.false_eq_true, if_false]
      rw [if_pos ⟨by rw [rKind_at a1], hc⟩]
    rw [hr]
    exact rAtom_at hF hT h hk hst.1
  by_cases h2 : kd = 2
  · subst h2
    have e : litW fm ⟨2, nm, args⟩ = sgn [33] :: atomW fm nm args := by unfold litW; rw [if_neg (by simp), if_pos rfl]
    rw [e] at h hst ⊢
    have hle := h.le hk
    obtain ⟨a1, a2⟩ := h.head
    have hs : rSign ws k [33] = true := by rw [rSign_at a1]; rfl
    rw [List.length_cons] at hst hle ⊢
    have hr : rLit ws k 0 = ({ (rAtom ws (k + 1) 0).1 with kind := 2 }, (rAtom ws (k + 1) 0).2.1, (rAtom ws (k + 1) 0).2.2) := by
      simp only [rLit, hs, if_true]
    obtain ⟨g1, g2⟩ := rAtom_at hF hT a2 (by omega) (by rw [show k + 1 + (atomW fm nm args).length = k + ((atomW fm nm args).length + 1) by omega]; exact hst.1)
    refine ⟨fun hl => ?_, fun hl => by rw [hr]; exact g2 hl⟩
    rw [hr, g1 hl]
    simp only
    congr 2; omega
  · obtain ⟨q1, q2, q3, q4⟩ := hkd.resolve_left (by omega)
    subst q4
    match args, q3 with
    | [a, b], _ =>
    have e : litW fm ⟨kd, [], [a, b]⟩ = [tokT fm a, sgn (cmpT kd), tokT fm b] := by unfold litW; rw [if_neg h1, if_neg h2]
    rw [e] at h hst ⊢
    obtain ⟨a1, a2⟩ := h.head
    obtain ⟨a3, a4⟩ := a2.head
    obtain ⟨a5, _⟩ := a4.head
    have ha := tokT_kind (fm := fm) (hT a (by simp))
    have hs : rSign ws k [33] = false := by rw [rSign_at a1, decide_eq_false (by omega)]; rfl
    have hc : rCmpAt ws (k + 1) = kd := by rw [rCmpAt_at a3]; exact rCompare_cmpT ⟨q1, q2⟩
    have r1 := rTerm_at hF (hT a (by simp)) a1
    have r2 := rTerm_at hF (hT b (by simp)) a5
    refine ⟨fun _ => ?_, fun hl => by simp at hl⟩
    simp only [rLit, hs, Bool.false_eq_true, if_false]
    rw [if_neg (by rw [hc]; omega), r1]
    simp only [hc]
    rw [if_neg (by omega), r2]
    rfl
end Delphi
set_option linter.unusedVariables false
set_option linter.unusedSimpArgs false
namespace Delphi
variable {fm : Int → List Nat}
theorem stops_sign {ws : List Wd} {k : Nat} {s : List Nat} (h : ws[k]? = some (sgn s)) (h1 : s ≠ [40]) (h2 : rCompare s = 0) : Stops ws k := by
  refine ⟨?_, ?_⟩
  · rw [rSign_at h]; show (decide (4 = 4) && decide (s = [40])) = false; rw [decide_eq_false h1]; rfl
  · rw [rCmpAt_at h]; exact h2
theorem litW_pos {l : Lt} (h : LtW l) : 0 < (litW fm l).length := by
  unfold litW
  split
  · exact atomW_pos _ _
  · split
    · simp
    · rename_i h1 h2
      obtain ⟨q1, q2, q3, q4⟩ := h.kind.resolve_left (by omega)
      match hh : l.args, q3 with
      | [a, b], _ => simp
def Four (l : Lt) : Prop := l.args.length ≤ 4
theorem rBody_at (hF : FmOk fm) {ws : List Wd} : ∀ (bs : List Lt) (b : Lt) (n : Nat) (l : List Lt) (k : Nat), bs.length < n → l.length ≤ 6 → (∀ u ∈ b :: bs, LtW u) → k ≤ ws.length → At ws k (litsW fm (b :: bs) ++ [sgn [46]]) →
    (l.length + (b :: bs).length ≤ 6 → (∀ u ∈ b :: bs, Four u) → rBody ws n l k 0 = (l ++ b :: bs, k + (litsW fm (b :: bs)).length, 0)) ∧ ((6 < l.length + (b :: bs).length ∨ ∃ u ∈ b :: bs, ¬ Four u) → (rBody ws n l k 0).2.2 = 8)
  | bs, b, 0, l, k, hn, _, _, _, _ => by omega
  | [], b, n + 1, l, k, hn, h6, hT, hk, h => by
    have e : litsW fm [b] = litW fm b := by simp [litsW]
    rw [e] at h ⊢
    obtain ⟨h1, h2⟩ := h.app
    obtain ⟨h3, _⟩ := h2.head
    obtain ⟨g1, g2⟩ := rLit_at hF (hT b (by simp)) h1 hk (stops_sign h3 (by decide) rfl)
    have hs : rSign ws (k + (litW fm b).length) [44] = false := by rw [rSign_at h3]; rfl
    constructor
    · intro hl hf
      have hr := g1 (hf b (by simp))
      simp only [rBody, if_true, hr, hs, Bool.false_eq_true, if_false, true_and, List.length_cons, List.length_nil] at hl ⊢
      rw [if_neg (by omega)]
    · intro hl
      by_cases hb : Four b
      · have hr := g1 hb
        have hl : 6 < l.length + 1 := by
          rcases hl with hl | ⟨u, hu, hb'⟩
          · simpa using hl
          · simp only [List.mem_cons, List.not_mem_nil, or_false] at hu; subst hu; exact absurd hb hb'
        simp only [rBody, if_true, hr, hs, Bool.false_eq_true, if_false, true_and]
        rw [if_pos (by omega)]
      · have hr := g2 (by unfold Four at hb; omega)
        have hz : ¬ ((rLit ws k 0).2.2 = 0 ∧ l.length = 6) := by rw [hr]; omega
        simp only [rBody, if_true, if_neg hz]
        split
        · rw [hr]
          cases n with
          | zero => rfl
          | succ n => simp [rBody]
        · exact hr
  | u :: bs, b, n + 1, l, k, hn, h6, hT, hk, h => by
    have e : litsW fm (b :: u :: bs) ++ [sgn [46]] = litW fm b ++ (sgn [44] :: (litsW fm (u :: bs) ++ [sgn [46]])) := by simp [litsW]
    rw [e] at h
    have hle := h.le hk
    obtain ⟨h1, h2⟩ := h.app
    obtain ⟨h3, h4⟩ := h2.head
    obtain ⟨g1, g2⟩ := rLit_at hF (hT b (by simp)) h1 hk (stops_sign h3 (by decide) rfl)
    have hs : rSign ws (k + (litW fm b).length) [44] = true := by rw [rSign_at h3]; rfl
    have he : (litsW fm (b :: u :: bs)).length = (litW fm b).length + ((litsW fm (u :: bs)).length + 1) := by simp [litsW]
    rw [List.length_append, List.length_cons] at hle
    by_cases hb : Four b
    · have hr := g1 hb
      by_cases h6' : l.length = 6
      · constructor
        · intro hl; simp only [List.length_cons] at hl; omega
        · intro _
          simp only [rBody, if_true, hr, hs, true_and]
          rw [if_pos h6']
          cases n with
          | zero => rfl
          | succ n => simp [rBody]
      · obtain ⟨i1, i2⟩ := rBody_at hF bs u n (l ++ [b]) (k + (litW fm b).length + 1) (by simp only [List.length_cons] at hn; omega) (by simp; omega) (fun v hv => hT v (by simp only [List.mem_cons] at hv ⊢; exact .inr hv)) (by omega) h4
        have hll : (l ++ [b]).length + (u :: bs).length = l.length + (b :: u :: bs).length := by simp; omega
        rw [hll] at i1 i2
        have hstep : rBody ws (n + 1) l k 0 = rBody ws n (l ++ [b]) (k + (litW fm b).length + 1) 0 := by
          simp only [rBody, if_true, hr, hs, true_and]
          rw [if_neg h6']
        rw [hstep]
        constructor
        · intro hl hf
          rw [i1 hl fun v hv => hf v (by simp only [List.mem_cons] at hv ⊢; exact .inr hv), he]
          simp only [List.append_assoc, List.cons_append, List.nil_append]
          congr 2; omega
        · rintro (hl | ⟨v, hv, hf⟩)
          · exact i2 (.inl hl)
          · rcases List.mem_cons.1 hv with rfl | hv
            · exact absurd hb hf
            · exact i2 (.inr ⟨v, hv, hf⟩)
    · have hr := g2 (by unfold Four at hb; omega)
      constructor
      · intro hl hf; exact absurd (hf b (by simp)) hb
      · intro _
        have hz : ¬ ((rLit ws k 0).2.2 = 0 ∧ l.length = 6) := by rw [hr]; omega
        simp only [rBody, if_true, if_neg hz]
        split
        · rw [hr]
          cases n with
          | zero => rfl
          | succ n => simp [rBody]
        · exact hr
structure RlW (r : Rl) : Prop where
  hk : r.head.kind = 1
  ht : ∀ t ∈ r.head.args, TmW t
  bd : ∀ l ∈ r.body, LtW l
structure RlL (r : Rl) : Prop where
  hd : r.head.args.length ≤ 4
  bd : r.body.length ≤ 6
  ls : ∀ l ∈ r.body, Four l
theorem litsW_len {bs : List Lt} (h : ∀ l ∈ bs, LtW l) : bs.length ≤ (litsW fm bs).length := by
  cases bs with
  | nil => simp
  | cons b bs =>
    have h1 := litW_pos (fm := fm) (h b (by simp))
    simp only [litsW, List.length_cons, List.length_append]
    have : ∀ l : List Lt, l.length ≤ (l.flatMap fun u => sgn [44] :: litW fm u).length := by
      intro l; induction l with
      | nil => simp
      | cons x l ih => simp only [List.flatMap_cons, List.length_append, List.length_cons]; omega
    have := this bs
    omega
theorem rClause_at (hF : FmOk fm) {ws : List Wd} {k : Nat} {r : Rl} (hr : RlW r) (h : At ws k (ruleW fm r)) (hk : k ≤ ws.length) :
    (RlL r → rClause ws k 0 = (r, k + (ruleW fm r).length, 0)) ∧ (¬ RlL r → (rClause ws k 0).2.2 = 8) := by
  obtain ⟨⟨hkd, hnm, hargs⟩, body⟩ := r
  obtain ⟨h1, h2, h3⟩ := hr
  simp only at h1 h2 h3
  subst h1
  have hle := h.le hk
  have h : At ws k (atomW fm hnm hargs ++ (bodyW fm body ++ [sgn [46]])) := h
  have hlen : (ruleW fm ⟨⟨1, hnm, hargs⟩, body⟩).length = (atomW fm hnm hargs).length + ((bodyW fm body).length + 1) := by simp [ruleW]
  rw [hlen] at hle ⊢
  obtain ⟨a1, a2⟩ := h.app
  cases body with
  | nil =>
    have a2 : At ws (k + (atomW fm hnm hargs).length) [sgn [46]] := a2
    obtain ⟨b1, _⟩ := a2.head
    obtain ⟨g1, g2⟩ := rAtom_at hF h2 a1 hk (stops_sign b1 (by decide) rfl).1
    have hs : rSign ws (k + (atomW fm hnm hargs).length) [58, 45] = false := by rw [rSign_at b1]; rfl
    have hd : rSign ws (k + (atomW fm hnm hargs).length) [46] = true := by rw [rSign_at b1]; rfl
    constructor
    · intro hl
      have hr := g1 hl.hd
      simp only [rClause, hr, hs, Bool.false_eq_true, false_and, if_false, rEat, if_true, hd]
      rfl
    · intro hl
      have h4 : 4 < hargs.length := by
        by_cases h4 : hargs.length ≤ 4
        · exact absurd ⟨h4, by simp, by simp⟩ hl
        · omega
      have hr := g2 h4
      simp only [rClause, hr]
      simp [rEat, hr]
  | cons b bs =>
    have a2 : At ws (k + (atomW fm hnm hargs).length) (sgn [58, 45] :: (litsW fm (b :: bs) ++ [sgn [46]])) := a2
    obtain ⟨b1, b2⟩ := a2.head
    obtain ⟨g1, g2⟩ := rAtom_at hF h2 a1 hk (stops_sign b1 (by decide) rfl).1
    have hs : rSign ws (k + (atomW fm hnm hargs).length) [58, 45] = true := by rw [rSign_at b1]; rfl
    have hbl : (bodyW fm (b :: bs)).length = (litsW fm (b :: bs)).length + 1 := by simp [bodyW]
    rw [hbl] at hle ⊢
    have hll := litsW_len (fm := fm) h3
    by_cases h4 : hargs.length ≤ 4
    · have hr := g1 h4
      obtain ⟨i1, i2⟩ := rBody_at hF bs b (ws.length + 1) [] (k + (atomW fm hnm hargs).length + 1) (by simp only [List.length_cons] at hll; omega) (by simp) h3 (by omega) b2
      obtain ⟨_, b3⟩ := b2.app
      obtain ⟨b4, _⟩ := b3.head
      simp only [List.length_nil, Nat.zero_add, List.nil_append] at i1 i2
      constructor
      · intro hl
        have hrb := i1 hl.bd hl.ls
        have hd : rSign ws (k + (atomW fm hnm hargs).length + 1 + (litsW fm (b :: bs)).length) [46] = true := by rw [rSign_at b4]; rfl
        simp only [rClause, hr, hs, and_self, if_true, hrb, rEat, hd]
        congr 2; omega
      · intro hl
        have hbad : 6 < (b :: bs).length ∨ ∃ u ∈ b :: bs, ¬ Four u := by
          by_cases h6 : (b :: bs).length ≤ 6
          · right
            by_cases hf : ∀ u ∈ b :: bs, Four u
            · exact absurd ⟨h4, h6, hf⟩ hl
            · have : ∃ u, ¬ (u ∈ b :: bs → Four u) := Classical.not_forall.1 hf
              obtain ⟨u, hu⟩ := this
              exact ⟨u, by
                by_cases hm : u ∈ b :: bs
                · exact hm
                · exact absurd (fun h => absurd h hm) hu, fun hf => hu fun _ => hf⟩
          · left; omega
        have hrb := i2 hbad
        simp only [rClause, hr, hs, and_self, if_true, hrb]
        simp [rEat, hrb]
    · have hr := g2 (by omega)
      constructor
      · intro hl; exact absurd hl.hd h4
      · intro _
        simp only [rClause, hr]
        simp [rEat, hr]
theorem rRules_err {ws : List Wd} {q : Nat} {l : List Rl} {k e : Nat} (h : e ≠ 0) : rRules ws q l k e = (l, k, e) := by
  cases q with
  | zero => rfl
  | succ q => simp only [rRules]; rw [if_neg (fun hh => h hh.1)]
theorem ruleW_pos (r : Rl) : 0 < (ruleW fm r).length := by simp only [ruleW, List.length_append, List.length_cons, List.length_nil]; omega
theorem rRules_at (hF : FmOk fm) {ws : List Wd} : ∀ (rs : List Rl) (n : Nat) (l : List Rl) (k : Nat), (∀ r ∈ rs, RlW r ∧ RlL r) → k ≤ ws.length → At ws k (rs.flatMap (ruleW fm)) → rs.length < n → l.length + rs.length ≤ 30 →
    ∃ n', rRules ws n l k 0 = rRules ws n' (l ++ rs) (k + (rs.flatMap (ruleW fm)).length) 0 ∧ n = n' + rs.length
  | [], n, l, k, _, _, _, _, _ => ⟨n, by simp, by simp⟩
  | r :: rs, 0, l, k, _, _, _, hn, _ => by omega
  | r :: rs, n + 1, l, k, hr, hk, h, hn, hl => by
    rw [List.flatMap_cons] at h
    have hle := h.le hk
    have hpos := ruleW_pos (fm := fm) r
    obtain ⟨h1, h2⟩ := h.app
    obtain ⟨g1, _⟩ := rClause_at hF (hr r (by simp)).1 h1 hk
    have hc := g1 (hr r (by simp)).2
    rw [List.length_append] at hle
    simp only [List.length_cons] at hn hl
    obtain ⟨n', i1, i2⟩ := rRules_at hF rs n (l ++ [r]) (k + (ruleW fm r).length) (fun x hx => hr x (by simp [hx])) (by omega) h2 (by omega) (by simp; omega)
    refine ⟨n', ?_, by simp; omega⟩
    rw [List.flatMap_cons, List.length_append]
    have : rRules ws (n + 1) l k 0 = rRules ws n (l ++ [r]) (k + (ruleW fm r).length) 0 := by
      simp only [rRules]
      rw [if_pos ⟨trivial, by omega⟩]
      simp only [hc, true_and]
      rw [if_neg (by omega)]
    rw [this, i1]
    simp only [List.append_assoc, List.cons_append, List.nil_append, Nat.add_assoc]
theorem rRules_end {ws : List Wd} {n : Nat} {l : List Rl} {k : Nat} (h : ws.length ≤ k) : rRules ws n l k 0 = (l, k, 0) := by
  cases n with
  | zero => rfl
  | succ n => simp only [rRules]; rw [if_neg (fun hh => by omega)]
theorem rulesW_len (rs : List Rl) : rs.length ≤ (rs.flatMap (ruleW fm)).length := by
  induction rs with
  | nil => simp
  | cons r rs ih =>
    have := ruleW_pos (fm := fm) r
    simp only [List.flatMap_cons, List.length_append, List.length_cons]; omega
theorem rProg_at (hF : FmOk fm) {rs : List Rl} (hr : ∀ r ∈ rs, RlW r ∧ RlL r) (h30 : rs.length ≤ 30) : rProg (rs.flatMap (ruleW fm)) true = (rs, 0) := by
  have hl := rulesW_len (fm := fm) rs
  obtain ⟨n', h1, h2⟩ := rRules_at hF (ws := rs.flatMap (ruleW fm)) rs ((rs.flatMap (ruleW fm)).length + 1) [] 0 hr (Nat.zero_le _) ⟨[], by simp⟩ (by omega) (by simpa using h30)
  unfold rProg
  rw [h1, rRules_end (by simp)]
  simp [rBad]
end Delphi
set_option linter.unusedVariables false
set_option linter.unusedSimpArgs false
namespace Delphi
variable (fm : Int → List Nat)
def tmX (t : Tm) : List Nat := if t.kind = 3 then fm t.num else t.name
def qX : List Tm → List Nat
  | [] => []
  | t :: r => tmX fm t ++ r.flatMap fun u => [44, 32] ++ tmX fm u
def atomX (nm : List Nat) (args : List Tm) : List Nat := match args with
  | [] => nm
  | args => nm ++ [40] ++ qX fm args ++ [41]
def litX (l : Lt) : List Nat :=
  if l.kind = 1 then atomX fm l.name l.args
  else if l.kind = 2 then 33 :: atomX fm l.name l.args
  else match l.args with
    | [a, b] => tmX fm a ++ [32] ++ cmpT l.kind ++ [32] ++ tmX fm b
    | _ => []
def bodyX : List Lt → List Nat
  | [] => []
  | b :: bs => [32, 58, 45, 32] ++ (litX fm b ++ bs.flatMap fun u => [44, 32] ++ litX fm u)
def ruleX (r : Rl) : List Nat := atomX fm r.head.name r.head.args ++ bodyX fm r.body ++ [46]
def tokK (g : List Nat) (t : Tm) : Tok := ⟨g, if t.kind = 1 then 2 else if t.kind = 2 then 1 else 3, if t.kind = 1 then t.name else if t.kind = 2 then t.name else fm t.num⟩
def sgK (g s : List Nat) : Tok := ⟨g, 4, s⟩
def argsK (g : List Nat) : List Tm → List Tok
  | [] => []
  | t :: ts => tokK fm g t :: ts.flatMap fun u => [sgK [] [44], tokK fm [32] u]
def atomK (g nm : List Nat) (args : List Tm) : List Tok := match args with
  | [] => [⟨g, 1, nm⟩]
  | args => ⟨g, 1, nm⟩ :: sgK [] [40] :: (argsK fm [] args ++ [sgK [] [41]])
def litK (g : List Nat) (l : Lt) : List Tok :=
  if l.kind = 1 then atomK fm g l.name l.args
  else if l.kind = 2 then sgK g [33] :: atomK fm [] l.name l.args
  else match l.args with
    | [a, b] => [tokK fm g a, sgK [32] (cmpT l.kind), tokK fm [32] b]
    | _ => []
def litsK : List Lt → List Tok
  | [] => []
  | b :: bs => litK fm [32] b ++ bs.flatMap fun u => sgK [] [44] :: litK fm [32] u
def bodyK : List Lt → List Tok
  | [] => []
  | b :: bs => sgK [32] [58, 45] :: litsK fm (b :: bs)
def ruleK (g : List Nat) (r : Rl) : List Tok := atomK fm g r.head.name r.head.args ++ (bodyK fm r.body ++ [sgK [] [46]])
variable {fm}
theorem tokK_wd (g : List Nat) (t : Tm) : (tokK fm g t).wd = tokT fm t := by
  unfold tokK tokT Tok.wd
  split
  · rfl
  · split <;> rfl
theorem argsK_wd (g : List Nat) (ts : List Tm) : (argsK fm g ts).map Tok.wd = argsW fm ts := by
  cases ts with
  | nil => rfl
  | cons t ts =>
    simp only [argsK, argsW, List.map_cons, tokK_wd, List.map_flatMap, List.map_nil]
    rfl
theorem atomK_wd (g nm : List Nat) (args : List Tm) : (atomK fm g nm args).map Tok.wd = atomW fm nm args := by
  cases args with
  | nil => rfl
  | cons t ts =>
    show (⟨g, 1, nm⟩ :: sgK [] [40] :: (argsK fm [] (t :: ts) ++ [sgK [] [41]])).map Tok.wd = ⟨1, nm, 0⟩ :: sgn [40] :: (argsW fm (t :: ts) ++ [sgn [41]])
    simp only [List.map_cons, List.map_append, argsK_wd, List.map_nil]
    rfl
theorem litK_wd (g : List Nat) (l : Lt) : (litK fm g l).map Tok.wd = litW fm l := by
  unfold litK litW
  split
  · exact atomK_wd ..
  · split
    · rw [List.map_cons, atomK_wd]; rfl
    · split
      · rename_i a b hab
        simp only [hab, List.map_cons, tokK_wd, List.map_nil]; rfl
      · rename_i hn
        first
          | rfl
          | (split
             · rename_i a b hab; exact absurd hab (hn a b)
             · rfl)
theorem litsK_wd (bs : List Lt) : (litsK fm bs).map Tok.wd = litsW fm bs := by
  cases bs with
  | nil => rfl
  | cons b bs =>
    simp only [litsK, litsW, List.map_append, litK_wd, List.map_flatMap, List.map_cons]
    rfl
theorem ruleK_wd (g : List Nat) (r : Rl) : (ruleK fm g r).map Tok.wd = ruleW fm r := by
  unfold ruleK ruleW
  rw [List.map_append, List.map_append, atomK_wd]
  congr 1
  cases r.body with
  | nil => rfl
  | cons b bs =>
    simp only [bodyK, bodyW, List.map_cons, litsK_wd, List.map_nil]
    rfl
theorem tokK_laid (g : List Nat) (t : Tm) (h : t.kind = 1 ∨ t.kind = 2 ∨ t.kind = 3) : (tokK fm g t).text = tmX fm t := by
  unfold tokK tmX
  rcases h with h | h | h <;> simp [h]
theorem laid_flat' {α : Type} {P : α → Prop} (f : α → List Tok) (f' : α → List Nat) (h : ∀ x, P x → laidT (f x) = f' x) : ∀ l : List α, (∀ x ∈ l, P x) → laidT (l.flatMap f) = l.flatMap f'
  | [], _ => rfl
  | x :: l, hl => by rw [List.flatMap_cons, laidT_app, h x (hl x (by simp)), laid_flat' f f' h l (fun y hy => hl y (by simp [hy])), List.flatMap_cons]
theorem tmW_k {t : Tm} (h : TmW t) : t.kind = 1 ∨ t.kind = 2 ∨ t.kind = 3 := by
  rcases h with ⟨h, _⟩ | ⟨h, _⟩ | ⟨h, _⟩
  · exact .inl h
  · exact .inr (.inl h)
  · exact .inr (.inr h)
theorem argsK_laid (g : List Nat) {t : Tm} {ts : List Tm} (h : ∀ u ∈ t :: ts, TmW u) : laidT (argsK fm g (t :: ts)) = g ++ qX fm (t :: ts) := by
  simp only [argsK, qX, laidT]
  rw [tokK_laid _ _ (tmW_k (h t (by simp))), laid_flat' (P := TmW) _ (fun u => [44, 32] ++ tmX fm u) _ ts fun u hu => h u (by simp [hu])]
  · rfl
  · intro u hu
    simp only [laidT, sgK, tokK_laid _ _ (tmW_k hu)]
    simp [tokK]
theorem atomK_laid (g nm : List Nat) {args : List Tm} (h : ∀ u ∈ args, TmW u) : laidT (atomK fm g nm args) = g ++ atomX fm nm args := by
  cases args with
  | nil => simp [atomK, laidT, atomX]
  | cons t ts =>
    show laidT (⟨g, 1, nm⟩ :: sgK [] [40] :: (argsK fm [] (t :: ts) ++ [sgK [] [41]])) = g ++ (nm ++ [40] ++ qX fm (t :: ts) ++ [41])
    simp only [laidT, laidT_app, argsK_laid [] h, sgK, List.nil_append, List.append_nil, List.append_assoc]
theorem litK_laid (g : List Nat) {l : Lt} (h : LtW l) : laidT (litK fm g l) = g ++ litX fm l := by
  unfold litK litX
  split
  · exact atomK_laid g _ h.tm
  · split
    · simp only [laidT, sgK, atomK_laid [] _ h.tm, List.nil_append]; rfl
    · split
      · rename_i a b hab
        have ha := tokK_laid (fm := fm) g a (tmW_k (h.tm a (by rw [hab]; simp)))
        have hb := tokK_laid (fm := fm) [32] b (tmW_k (h.tm b (by rw [hab]; simp)))
        simp only [laidT, sgK, ha, hb, List.append_nil, List.append_assoc]
        rfl
      · rename_i hn
        rename_i h1 h2
        obtain ⟨q1, q2, q3, q4⟩ := h.kind.resolve_left (by omega)
        match hh : l.args, q3 with
        | [a, b], _ => exact absurd hh (hn a b)
theorem ruleK_laid (g : List Nat) {r : Rl} (h : RlW r) : laidT (ruleK fm g r) = g ++ ruleX fm r := by
  unfold ruleK ruleX
  rw [laidT_app, atomK_laid g _ h.ht, laidT_app]
  have hb : laidT (bodyK fm r.body) = bodyX fm r.body := by
    have := h.bd
    cases hh : r.body with
    | nil => rfl
    | cons b bs =>
      rw [hh] at this
      simp only [bodyK, litsK, bodyX, laidT, laidT_app, sgK, litK_laid [32] (this b (by simp))]
      rw [laid_flat' (P := LtW) _ (fun u => [44, 32] ++ litX fm u) _ bs fun u hu => this u (by simp [hu])]
      · rfl
      · intro u hu
        simp only [laidT, sgK, litK_laid [32] hu]
        rfl
  rw [hb]
  simp [laidT, sgK]
def TmX (fm : Int → List Nat) (t : Tm) : Prop := (t.kind = 1 → varT t.name) ∧ (t.kind = 2 → nameT t.name) ∧ (t.kind = 3 → decT (fm t.num))
structure LtX (fm : Int → List Nat) (l : Lt) : Prop where
  w : LtW l
  nm : l.kind = 1 ∨ l.kind = 2 → nameT l.name
  tm : ∀ t ∈ l.args, TmX fm t
theorem named_var {c : Nat} (h : isVarC c = false) : isNamed c = false ∧ isDigit c = false := by
  unfold isVarC at h
  simp only [Bool.or_eq_false_iff] at h
  refine ⟨h.1, ?_⟩
  have := h.1
  unfold isNamed at this
  simp only [Bool.or_eq_false_iff] at this
  exact this.2.1
theorem ends_n {r : List Nat} (h : Ends isVarC r) : Ends isNamed r ∧ Ends isDigit r := ⟨fun x hx => (named_var (h x hx)).1, fun x hx => (named_var (h x hx)).2⟩
theorem ends_c {c : Nat} {r : List Nat} (h : isVarC c = false) : Ends isVarC (c :: r) := by
  intro x hx
  simp only [List.head?_cons, Option.some.injEq] at hx
  subst hx; exact h
theorem nameT_ne {s : List Nat} (h : nameT s) : s ≠ [] ∧ s.length ≤ 16 := by obtain ⟨c, t, rfl, _, _, h⟩ := h; exact ⟨by simp, h⟩
theorem tokK_lx {g : List Nat} {t : Tm} {r : List Nat} (hg : Gap g) (hw : TmW t) (h : TmX fm t) (hr : Ends isVarC r) : Gap (tokK fm g t).gap ∧ (tokK fm g t).text ≠ [] ∧ ((tokK fm g t).kind ≠ 4 → (tokK fm g t).text.length ≤ 16) ∧ lexWord ((tokK fm g t).text ++ r) = ((tokK fm g t).kind, (tokK fm g t).text.length) := by
  obtain ⟨e1, e2⟩ := ends_n hr
  rcases tmW_k hw with hk | hk | hk
  · have hv := h.1 hk
    have e : tokK fm g t = ⟨g, 2, t.name⟩ := by unfold tokK; simp [hk]
    rw [e]
    obtain ⟨c, u, hs, _, _, h16⟩ := id hv
    exact ⟨hg, by show t.name ≠ []; rw [hs]; simp, fun _ => h16, lx_var hv hr⟩
  · have hv := h.2.1 hk
    have e : tokK fm g t = ⟨g, 1, t.name⟩ := by unfold tokK; simp [hk]
    rw [e]
    exact ⟨hg, (nameT_ne hv).1, fun _ => (nameT_ne hv).2, lx_name hv e1⟩
  · have hv := h.2.2 hk
    have e : tokK fm g t = ⟨g, 3, fm t.num⟩ := by unfold tokK; simp [hk]
    rw [e]
    refine ⟨hg, ?_, fun _ => hv.1, lx_num hv e2⟩
    show fm t.num ≠ []
    rcases hv.2 with h | ⟨m, c, u, h, _⟩ <;> rw [h] <;> simp
theorem sgK_lx {g s : List Nat} {l : List Tok} {r : List Nat} (hg : Gap g) (hs : s ∈ [[58, 45], [33, 61], [60, 61], [40], [41], [44], [46], [61]]) (h : LxAll l r) : LxAll (sgK g s :: l) r := by
  refine ⟨hg, ?_, fun h => absurd rfl h, lx_sign hs, h⟩
  intro he
  have he : s = [] := he
  subst he; simp at hs
theorem gap32 : Gap [32] := gap_one rfl
theorem argsK_lx : ∀ (ts : List Tm) (g : List Nat) (t : Tm) (r : List Nat), Gap g → (∀ u ∈ t :: ts, TmW u ∧ TmX fm u) → Ends isVarC r → LxAll (argsK fm g (t :: ts)) r
  | [], g, t, r, hg, h, hr => by
    obtain ⟨a1, a2, a3, a4⟩ := tokK_lx hg (h t (by simp)).1 (h t (by simp)).2 hr
    exact ⟨a1, a2, a3, a4, trivial⟩
  | u :: ts, g, t, r, hg, h, hr => by
    have e : argsK fm g (t :: u :: ts) = tokK fm g t :: sgK [] [44] :: argsK fm [32] (u :: ts) := rfl
    rw [e]
    obtain ⟨a1, a2, a3, a4⟩ := tokK_lx (r := laidT (sgK [] [44] :: argsK fm [32] (u :: ts)) ++ r) hg (h t (by simp)).1 (h t (by simp)).2 (ends_c (c := 44) (by decide))
    exact ⟨a1, a2, a3, a4, sgK_lx gap_nil (by decide) (argsK_lx ts [32] u r gap32 (fun v hv => h v (by simp only [List.mem_cons] at hv ⊢; exact .inr hv)) hr)⟩
theorem atomK_lx {g nm : List Nat} {args : List Tm} {r : List Nat} (hg : Gap g) (hn : nameT nm) (h : ∀ u ∈ args, TmW u ∧ TmX fm u) (hr : Ends isVarC r) : LxAll (atomK fm g nm args) r := by
  cases args with
  | nil => exact ⟨hg, (nameT_ne hn).1, fun _ => (nameT_ne hn).2, lx_name hn (ends_n hr).1, trivial⟩
  | cons t ts =>
    show LxAll (⟨g, 1, nm⟩ :: sgK [] [40] :: (argsK fm [] (t :: ts) ++ [sgK [] [41]])) r
    refine ⟨hg, (nameT_ne hn).1, fun _ => (nameT_ne hn).2, lx_name hn (ends_n (ends_c (c := 40) (by decide))).1, sgK_lx gap_nil (by decide) ?_⟩
    exact LxAll.app (argsK_lx ts [] t _ gap_nil h (ends_c (c := 41) (by decide))) (sgK_lx gap_nil (by decide) trivial)
theorem litK_lx {g : List Nat} {l : Lt} {r : List Nat} (hg : Gap g) (h : LtX fm l) (hr : Ends isVarC r) : LxAll (litK fm g l) r := by
  have hT : ∀ u ∈ l.args, TmW u ∧ TmX fm u := fun u hu => ⟨h.w.tm u hu, h.tm u hu⟩
  unfold litK
  split
  · rename_i h1; exact atomK_lx hg (h.nm (.inl h1)) hT hr
  · rename_i h1
    split
    · rename_i h2
      have hn := h.nm (.inr h2)
      refine ⟨hg, by show [33] ≠ []; simp, fun hh => absurd rfl hh, ?_, atomK_lx gap_nil hn hT hr⟩
      rw [atomK_laid _ _ h.w.tm]
      refine lx_sign2 (.inl rfl) ?_
      obtain ⟨c, t, hs, hc, _⟩ := hn
      have : ([] ++ atomX fm l.name l.args ++ r).head? = some c := by
        unfold atomX
        split <;> simp [hs]
      rw [this]
      intro he
      injection he with he
      subst he; exact absurd hc (by decide)
    · rename_i h2
      obtain ⟨q1, q2, q3, q4⟩ := h.w.kind.resolve_left (by omega)
      match hh : l.args, q3 with
      | [a, b], _ =>
        simp only
        have ha := hT a (by rw [hh]; simp)
        have hb := hT b (by rw [hh]; simp)
        obtain ⟨a1, a2, a3, a4⟩ := tokK_lx (r := laidT [sgK [32] (cmpT l.kind), tokK fm [32] b] ++ r) hg ha.1 ha.2 (ends_c (c := 32) (by decide))
        obtain ⟨b1, b2, b3, b4⟩ := tokK_lx (r := r) gap32 hb.1 hb.2 hr
        refine ⟨a1, a2, a3, a4, gap32, ?_, fun hh => absurd rfl hh, ?_, b1, b2, b3, b4, trivial⟩
        · show cmpT l.kind ≠ []
          have : l.kind = 3 ∨ l.kind = 4 ∨ l.kind = 5 ∨ l.kind = 6 := by omega
          rcases this with h | h | h | h <;> rw [h] <;> simp [cmpT]
        · show lexWord (cmpT l.kind ++ _) = (4, (cmpT l.kind).length)
          have : l.kind = 3 ∨ l.kind = 4 ∨ l.kind = 5 ∨ l.kind = 6 := by omega
          rcases this with h | h | h | h <;> rw [h]
          · exact lx_sign (by decide)
          · exact lx_sign (by decide)
          · exact lx_sign2 (.inr rfl) (by show some 32 ≠ some 61; simp)
          · exact lx_sign (by decide)
theorem litsK_lx : ∀ (bs : List Lt) (b : Lt) (r : List Nat), (∀ u ∈ b :: bs, LtX fm u) → Ends isVarC r → LxAll (litsK fm (b :: bs)) r
  | [], b, r, h, hr => by
    have e : litsK fm [b] = litK fm [32] b := by simp [litsK]
    rw [e]; exact litK_lx gap32 (h b (by simp)) hr
  | u :: bs, b, r, h, hr => by
    have e : litsK fm (b :: u :: bs) = litK fm [32] b ++ (sgK [] [44] :: litsK fm (u :: bs)) := by simp [litsK]
    rw [e]
    exact LxAll.app (litK_lx gap32 (h b (by simp)) (ends_c (c := 44) (by decide))) (sgK_lx gap_nil (by decide) (litsK_lx bs u r (fun v hv => h v (by simp only [List.mem_cons] at hv ⊢; exact .inr hv)) hr))
structure RlX (fm : Int → List Nat) (r : Rl) : Prop where
  w : RlW r
  nm : nameT r.head.name
  tm : ∀ t ∈ r.head.args, TmX fm t
  bd : ∀ l ∈ r.body, LtX fm l
theorem ruleK_lx {g : List Nat} {r : Rl} {s : List Nat} (hg : Gap g) (h : RlX fm r) : LxAll (ruleK fm g r) s := by
  unfold ruleK
  have hend : LxAll [sgK [] [46]] s := sgK_lx gap_nil (by decide) trivial
  refine LxAll.app (atomK_lx hg h.nm (fun u hu => ⟨h.w.ht u hu, h.tm u hu⟩) ?_) ?_
  · cases r.body with
    | nil => exact ends_c (c := 46) (by decide)
    | cons b bs => exact ends_c (c := 32) (by decide)
  · cases hh : r.body with
    | nil => exact hend
    | cons b bs =>
      have := h.bd
      rw [hh] at this
      exact sgK_lx gap32 (by decide) (LxAll.app (litsK_lx bs b _ this (ends_c (c := 46) (by decide))) hend)
def allX (fm : Int → List Nat) : List Rl → List Nat
  | [] => []
  | r :: rs => ruleX fm r ++ 10 :: allX fm rs
theorem scan_allX : ∀ (rs : List Rl) (n : Nat), (∀ r ∈ rs, RlX fm r) → ∃ ws, ws.map sW = rs.flatMap (ruleW fm) ∧ scan n (allX fm rs) = (ws, true)
  | [], n, _ => ⟨[], rfl, by rw [allX, scan_eq]; rfl⟩
  | r :: rs, n, h => by
    obtain ⟨ws, m, h1, h2⟩ := scan_laid (ruleK fm [] r) n (10 :: allX fm rs) (ruleK_lx gap_nil (h r (by simp)))
    have h10 : scan m (10 :: allX fm rs) = scan (m + 1) (allX fm rs) := (gap_one (c := 10) rfl).scan m (allX fm rs)
    obtain ⟨ws', h3, h4⟩ := scan_allX rs (m + 1) fun x hx => h x (by simp [hx])
    refine ⟨ws ++ ws', ?_, ?_⟩
    · rw [List.map_append, h1, h3, ruleK_wd, List.flatMap_cons]
    · have e : allX fm (r :: rs) = laidT (ruleK fm [] r) ++ 10 :: allX fm rs := by rw [ruleK_laid _ (h r (by simp)).w]; rfl
      rw [e, h2, h10, h4]
theorem rProgram_allX (hF : FmOk fm) {rs : List Rl} (h : ∀ r ∈ rs, RlX fm r ∧ RlL r) (h30 : rs.length ≤ 30) (hl : (allX fm rs).length ≤ 4000) : rProgram (allX fm rs) = (rs, 0) := by
  obtain ⟨ws, h1, h2⟩ := scan_allX rs 0 fun r hr => (h r hr).1
  rw [rProgram_ws hl, h2, ← rProg_sW, h1]
  exact rProg_at hF (fun r hr => ⟨(h r hr).1.w, (h r hr).2⟩) h30
end Delphi
set_option linter.unusedVariables false
set_option linter.unusedSimpArgs false
namespace Delphi
open Go.AE
variable [Globs]
theorem decN_all : ∀ (n m : Nat), m ≤ n → (∀ x ∈ decN m, isDigit x = true) ∧ (decN m).foldl rDig 0 = m ∧ ∃ c t, decN m = c :: t ∧ (m ≠ 0 → c ≠ 48)
  | n, m, h => by
    by_cases hs : m < 10
    · rw [decN_small hs]
      refine ⟨fun x hx => ?_, ?_, 48 + m, [], rfl, fun h => by omega⟩
      · simp only [List.mem_cons, List.not_mem_nil, or_false] at hx
        subst hx
        simp only [isDigit, Bool.and_eq_true, decide_eq_true_eq]; omega
      · simp only [List.foldl_cons, List.foldl_nil, rDig]
        rw [if_neg (by omega)]; omega
    · match n, h with
      | 0, h => omega
      | n + 1, h =>
        obtain ⟨h1, h2, c, t, h3, h4⟩ := decN_all n (m / 10) (by omega)
        rw [decN_step hs]
        refine ⟨fun x hx => ?_, ?_, c, t ++ [48 + m % 10], by rw [h3]; rfl, fun _ => h4 (by omega)⟩
        · rcases List.mem_append.1 hx with hx | hx
          · exact h1 x hx
          · simp only [List.mem_cons, List.not_mem_nil, or_false] at hx
            subst hx
            simp only [isDigit, Bool.and_eq_true, decide_eq_true_eq]; omega
        · rw [List.foldl_append, h2]
          simp only [List.foldl_cons, List.foldl_nil, rDig]
          rw [if_neg (by omega)]; omega
theorem decN_short : ∀ (k m : Nat), m < 10 ^ k → 0 < k → (decN m).length ≤ k
  | 0, m, h, h0 => by omega
  | k + 1, m, h, h0 => by
    by_cases hs : m < 10
    · rw [decN_small hs]; simp
    · rw [decN_step hs, List.length_append, List.length_singleton]
      have hk : 0 < k := by
        by_cases hk : k = 0
        · subst hk; simp at h; omega
        · omega
      have := decN_short k (m / 10) (by rw [Nat.pow_succ] at h; omega) hk
      omega
theorem fmt_ok : FmOk fmtI := by
  intro n hn
  cases n with
  | ofNat m =>
    obtain ⟨h1, h2, c, t, h3, _⟩ := decN_all m m (Nat.le_refl _)
    refine ⟨h2, ?_⟩
    show (decN m).head? = some 45 ↔ _
    rw [h3]
    simp only [List.head?_cons, Option.some.injEq]
    have hc := h1 c (by rw [h3]; simp)
    constructor
    · rintro rfl; exact absurd hc (by decide)
    · intro h; exact absurd h (by simp)
  | negSucc m =>
    obtain ⟨h1, h2, c, t, h3, _⟩ := decN_all (m + 1) (m + 1) (Nat.le_refl _)
    refine ⟨?_, ?_⟩
    · show (45 :: decN (m + 1)).foldl rDig 0 = m + 1
      rw [List.foldl_cons]
      have : rDig 0 45 = 0 := by simp [rDig]
      rw [this]; exact h2
    · show (45 :: decN (m + 1)).head? = some 45 ↔ _
      simp only [List.head?_cons, true_iff]
      exact Int.negSucc_lt_zero m
theorem fmt_dec {n : Int} (hn : n.natAbs ≤ 2147483648) : decT (fmtI n) := by
  cases n with
  | ofNat m =>
    have hn : m ≤ 2147483648 := hn
    obtain ⟨h1, h2, c, t, h3, h4⟩ := decN_all m m (Nat.le_refl _)
    have hl := decN_short 10 m (by omega) (by omega)
    refine ⟨by show (decN m).length ≤ 16; omega, ?_⟩
    show decN m = [48] ∨ _
    by_cases h0 : m = 0
    · subst h0; left; exact decN_small (by omega)
    · right
      exact ⟨[], c, t, by rw [List.nil_append]; exact h3, .inl rfl, h1 c (by rw [h3]; simp), h4 h0, fun x hx => h1 x (by rw [h3]; simp [hx])⟩
  | negSucc m =>
    have hn : m + 1 ≤ 2147483648 := hn
    obtain ⟨h1, h2, c, t, h3, h4⟩ := decN_all (m + 1) (m + 1) (Nat.le_refl _)
    have hl := decN_short 10 (m + 1) (by omega) (by omega)
    refine ⟨by show (45 :: decN (m + 1)).length ≤ 16; rw [List.length_cons]; omega, .inr ⟨[45], c, t, ?_, .inr rfl, h1 c (by rw [h3]; simp), h4 (by omega), fun x hx => h1 x (by rw [h3]; simp [hx])⟩⟩
    show 45 :: decN (m + 1) = _
    rw [h3]; rfl
structure WdG (w : Wd) : Prop where
  lo : 1 ≤ w.kind
  hi : w.kind ≤ 4
  nm : w.kind = 1 → nameT w.text
  vr : w.kind = 2 → varT w.text
omit [Globs] in
theorem isWd_G {w : Wd} (h : IsWd w) : WdG w := by
  obtain ⟨u, h1, h2, h3, h4⟩ := h
  cases u with
  | nil => exact absurd rfl h1
  | cons c t =>
    have h16 : w.kind ≠ 4 → w.text.length ≤ 16 := by
      intro hk
      rw [h3, List.length_take]
      have : ¬ 16 < (lexWord (c :: t)).2 := fun h => h4 ⟨by rw [← h2]; exact hk, h⟩
      omega
    by_cases hs : isSmall c = true
    · have e : lexWord (c :: t) = (1, ((c :: t).takeWhile isNamed).length) := by simp only [lexWord, hs, if_true]
      rw [e] at h2 h3
      simp only at h2 h3
      rw [take_takeWhile] at h3
      have hn : isNamed c = true := by simp [isNamed, hs]
      refine ⟨by omega, by omega, fun _ => ⟨c, t.takeWhile isNamed, by rw [h3, List.takeWhile_cons_of_pos hn], hs, fun x hx => ?_, h16 (by omega)⟩, (fun h => by omega)⟩
      rw [h3] at hx
      exact (List.all_eq_true.1 (List.all_takeWhile (p := isNamed) (l := c :: t))) x hx
    · by_cases hg : isGreat c = true
      · have e : lexWord (c :: t) = (2, ((c :: t).takeWhile isVarC).length) := by simp only [lexWord, hs, hg, if_true, Bool.false_eq_true, if_false]
        rw [e] at h2 h3
        simp only at h2 h3
        rw [take_takeWhile] at h3
        have hn : isVarC c = true := by simp [isVarC, hg]
        refine ⟨by omega, by omega, fun h => by omega, fun _ => ⟨c, t.takeWhile isVarC, by rw [h3, List.takeWhile_cons_of_pos hn], hg, fun x hx => ?_, h16 (by omega)⟩⟩
        rw [h3] at hx
        exact (List.all_eq_true.1 (List.all_takeWhile (p := isVarC) (l := c :: t))) x hx
      · have hk : w.kind = 3 ∨ w.kind = 4 := by
          rw [h2]
          revert h1
          simp only [lexWord, hs, hg, Bool.false_eq_true, if_false]
          split
          · intro _; exact .inl rfl
          · split
            · intro _; exact .inr rfl
            · intro h; exact absurd rfl h
        rcases hk with hk | hk
        · exact ⟨by omega, by omega, fun h => by omega, fun h => by omega⟩
        · exact ⟨by omega, by omega, fun h => by omega, fun h => by omega⟩
def TG (t : Tm) : Prop := TmW t ∧ TmX fmtI t
theorem rTerm_G {ws : List Wd} (hw : ∀ w ∈ ws, WdG w) {k e : Nat} (h : (rTerm ws k e).2.2 = 0) : TG (rTerm ws k e).1 := by
  unfold rTerm at h ⊢
  cases hn : rNext ws k e with
  | none =>
    rw [hn] at h
    simp only [rBad] at h
    split at h
    · omega
    · contradiction
  | some w =>
    rw [hn] at h
    simp only at h ⊢
    obtain ⟨_, _, hm⟩ := rNext_lt hn
    have hg := hw w (List.mem_of_getElem? hm)
    by_cases h4 : w.kind = 4
    · rw [if_pos h4] at h; simp at h
    · rw [if_neg h4] at h ⊢
      by_cases h1 : w.kind = 1
      · rw [if_pos h1]
        exact ⟨.inr (.inl ⟨rfl, rfl⟩), (fun h => by cases h), (fun _ => hg.nm h1), (fun h => by cases h)⟩
      · rw [if_neg h1] at h ⊢
        by_cases h2 : w.kind = 2
        · rw [if_pos h2]
          exact ⟨.inl ⟨rfl, rfl⟩, (fun _ => hg.vr h2), (fun h => by cases h), (fun h => by cases h)⟩
        · rw [if_neg h2] at h ⊢
          by_cases hb : 2147483648 < rNum w.text
          · rw [if_pos hb] at h; simp at h
          · rw [if_neg hb]
            have ha : (if w.text.head? = some 45 then -(rNum w.text : Int) else (rNum w.text : Int)).natAbs ≤ 2147483648 := by split <;> omega
            exact ⟨.inr (.inr ⟨rfl, rfl, ha⟩), (fun h => by cases h), (fun h => by cases h), (fun _ => fmt_dec ha)⟩
omit [Globs] in
theorem rArgs_err {ws : List Wd} {n : Nat} {l : List Tm} {k e : Nat} (h : e ≠ 0) : rArgs ws n l k e = (l, k, e) := by
  cases n with
  | zero => rfl
  | succ n => simp only [rArgs, if_neg h]
theorem rArgs_G {ws : List Wd} (hw : ∀ w ∈ ws, WdG w) : ∀ (n : Nat) (args : List Tm) (k e : Nat), (∀ t ∈ args, TG t) → args.length ≤ 4 → (rArgs ws n args k e).2.2 = 0 → (∀ t ∈ (rArgs ws n args k e).1, TG t) ∧ (rArgs ws n args k e).1.length ≤ 4
  | 0, args, k, e, h, hl, _ => ⟨h, hl⟩
  | n + 1, args, k, e, h, hl, he => by
    by_cases h0 : e = 0
    case neg => rw [rArgs_err h0] at he; exact absurd he h0
    subst h0
    simp only [rArgs, if_true] at he ⊢
    have hz : (if (rTerm ws k 0).2.2 = 0 ∧ args.length = 4 then 8 else (rTerm ws k 0).2.2) = 0 := by
      by_cases hc : rSign ws (rTerm ws k 0).2.1 [44] = true
      · rw [if_pos hc] at he
        by_cases hz : (if (rTerm ws k 0).2.2 = 0 ∧ args.length = 4 then 8 else (rTerm ws k 0).2.2) = 0
        · exact hz
        · rw [rArgs_err hz] at he; exact he
      · rw [if_neg hc] at he; exact he
    have hr : (rTerm ws k 0).2.2 = 0 ∧ args.length ≠ 4 := by
      by_cases hc : (rTerm ws k 0).2.2 = 0 ∧ args.length = 4
      · rw [if_pos hc] at hz; omega
      · rw [if_neg hc] at hz; exact ⟨hz, fun h => hc ⟨hz, h⟩⟩
    have ht := rTerm_G hw hr.1
    have hall : ∀ t ∈ args ++ [(rTerm ws k 0).1], TG t := by
      intro t hm
      rcases List.mem_append.1 hm with hm | hm
      · exact h t hm
      · simp only [List.mem_cons, List.not_mem_nil, or_false] at hm; subst hm; exact ht
    have hl' : (args ++ [(rTerm ws k 0).1]).length ≤ 4 := by simp; omega
    split
    · rename_i hc
      rw [if_pos hc] at he
      exact rArgs_G hw n _ _ _ hall hl' he
    · exact ⟨hall, hl'⟩
structure AtG (l : Lt) : Prop where
  kind : l.kind = 1
  nm : nameT l.name
  tm : ∀ t ∈ l.args, TG t
  four : l.args.length ≤ 4
theorem rAtom_G {ws : List Wd} (hw : ∀ w ∈ ws, WdG w) {k e : Nat} (h : (rAtom ws k e).2.2 = 0) : AtG (rAtom ws k e).1 := by
  unfold rAtom at h ⊢
  cases hn : rNext ws k e with
  | none =>
    rw [hn] at h
    simp only [rBad] at h
    split at h
    · omega
    · contradiction
  | some w =>
    rw [hn] at h
    simp only at h ⊢
    obtain ⟨_, _, hm⟩ := rNext_lt hn
    have hg := hw w (List.mem_of_getElem? hm)
    by_cases h1 : w.kind = 1
    · rw [if_pos h1] at h ⊢
      by_cases hs : rSign ws (k + 1) [40] = true
      · rw [if_pos hs] at h ⊢
        simp only at h ⊢
        have he := rEat_e h
        obtain ⟨q1, q2⟩ := rArgs_G hw (ws.length + 1) [] (k + 2) e (by simp) (by simp) he
        exact ⟨rfl, hg.nm h1, q1, q2⟩
      · rw [if_neg hs] at h ⊢
        exact ⟨rfl, hg.nm h1, by simp, by simp⟩
    · rw [if_neg h1] at h; simp at h
structure LG (l : Lt) : Prop where
  x : LtX fmtI l
  four : l.args.length ≤ 4
omit [Globs] in
theorem AtG.lit {l : Lt} (h : AtG l) : LG l := ⟨⟨⟨.inl (.inl h.kind), fun t ht => (h.tm t ht).1⟩, fun _ => h.nm, fun t ht => (h.tm t ht).2⟩, h.four⟩
omit [Globs] in
theorem rCompare_kind {s : List Nat} (h : rCompare s ≠ 0) : 3 ≤ rCompare s ∧ rCompare s ≤ 6 := by
  unfold rCompare at h ⊢
  split
  · omega
  · split
    · omega
    · split
      · omega
      · split
        · omega
        · rename_i h1 h2 h3 h4
          rw [if_neg h1, if_neg h2, if_neg h3, if_neg h4] at h
          exact absurd rfl h
theorem rLit_G {ws : List Wd} (hw : ∀ w ∈ ws, WdG w) {k e : Nat} (h : (rLit ws k e).2.2 = 0) : LG (rLit ws k e).1 := by
  unfold rLit at h ⊢
  by_cases h33 : rSign ws k [33] = true
  · rw [if_pos h33] at h ⊢
    simp only at h ⊢
    have := rAtom_G hw h
    exact ⟨⟨⟨.inl (.inr rfl), fun t ht => (this.tm t ht).1⟩, fun _ => this.nm, fun t ht => (this.tm t ht).2⟩, this.four⟩
  · rw [if_neg h33] at h ⊢
    by_cases h1 : rKind ws k = 1 ∧ rCmpAt ws (k + 1) = 0
    · rw [if_pos h1] at h ⊢
      exact (rAtom_G hw h).lit
    · rw [if_neg h1] at h ⊢
      simp only at h ⊢
      by_cases hc : (rTerm ws k e).2.2 ≠ 0 ∨ rCmpAt ws (rTerm ws k e).2.1 = 0
      · rw [if_pos hc] at h
        simp only [rBad] at h
        split at h
        · omega
        · contradiction
      · rw [if_neg hc] at h ⊢
        simp only at h ⊢
        have ha0 : (rTerm ws k e).2.2 = 0 := by
          by_cases hz : (rTerm ws k e).2.2 = 0
          · exact hz
          · exact absurd (.inl hz) hc
        have hz : rCmpAt ws (rTerm ws k e).2.1 ≠ 0 := fun hz => hc (.inr hz)
        have ha := rTerm_G hw ha0
        have hb := rTerm_G hw h
        have hk : 3 ≤ rCmpAt ws (rTerm ws k e).2.1 ∧ rCmpAt ws (rTerm ws k e).2.1 ≤ 6 := by
          unfold rCmpAt at hz ⊢
          split at hz
          · split at hz
            · rename_i h4
              rw [if_pos h4]
              exact rCompare_kind hz
            · exact absurd rfl hz
          · exact absurd rfl hz
        have hT : ∀ t ∈ [(rTerm ws k e).1, (rTerm ws ((rTerm ws k e).2.1 + 1) (rTerm ws k e).2.2).1], TG t := by
          intro t ht
          simp only [List.mem_cons, List.not_mem_nil, or_false] at ht
          rcases ht with rfl | rfl
          · exact ha
          · exact hb
        refine ⟨⟨⟨.inr ⟨hk.1, hk.2, rfl, rfl⟩, fun t ht => (hT t ht).1⟩, fun h => ?_, fun t ht => (hT t ht).2⟩, by simp⟩
        simp only at h; omega
omit [Globs] in
theorem rBody_err {ws : List Wd} {n : Nat} {l : List Lt} {k e : Nat} (h : e ≠ 0) : rBody ws n l k e = (l, k, e) := by
  cases n with
  | zero => rfl
  | succ n => simp only [rBody, if_neg h]
theorem rBody_G {ws : List Wd} (hw : ∀ w ∈ ws, WdG w) : ∀ (n : Nat) (l : List Lt) (k e : Nat), (∀ t ∈ l, LG t) → l.length ≤ 6 → (rBody ws n l k e).2.2 = 0 → (∀ t ∈ (rBody ws n l k e).1, LG t) ∧ (rBody ws n l k e).1.length ≤ 6
  | 0, l, k, e, h, hl, _ => ⟨h, hl⟩
  | n + 1, l, k, e, h, hl, he => by
    by_cases h0 : e = 0
    case neg => rw [rBody_err h0] at he; exact absurd he h0
    subst h0
    simp only [rBody, if_true] at he ⊢
    have hz : (if (rLit ws k 0).2.2 = 0 ∧ l.length = 6 then 8 else (rLit ws k 0).2.2) = 0 := by
      by_cases hc : rSign ws (rLit ws k 0).2.1 [44] = true
      · rw [if_pos hc] at he
        by_cases hz : (if (rLit ws k 0).2.2 = 0 ∧ l.length = 6 then 8 else (rLit ws k 0).2.2) = 0
        · exact hz
        · rw [rBody_err hz] at he; exact he
      · rw [if_neg hc] at he; exact he
    have hr : (rLit ws k 0).2.2 = 0 ∧ l.length ≠ 6 := by
      by_cases hc : (rLit ws k 0).2.2 = 0 ∧ l.length = 6
      · rw [if_pos hc] at hz; omega
      · rw [if_neg hc] at hz; exact ⟨hz, fun h => hc ⟨hz, h⟩⟩
    have ht := rLit_G hw hr.1
    have hall : ∀ t ∈ l ++ [(rLit ws k 0).1], LG t := by
      intro t hm
      rcases List.mem_append.1 hm with hm | hm
      · exact h t hm
      · simp only [List.mem_cons, List.not_mem_nil, or_false] at hm; subst hm; exact ht
    have hl' : (l ++ [(rLit ws k 0).1]).length ≤ 6 := by simp; omega
    split
    · rename_i hc
      rw [if_pos hc] at he
      exact rBody_G hw n _ _ _ hall hl' he
    · exact ⟨hall, hl'⟩
def RG (r : Rl) : Prop := RlX fmtI r ∧ RlL r
theorem rClause_G {ws : List Wd} (hw : ∀ w ∈ ws, WdG w) {k e : Nat} (h : (rClause ws k e).2.2 = 0) : RG (rClause ws k e).1 := by
  unfold rClause at h ⊢
  simp only at h ⊢
  have he := rEat_e h
  have hb : (rAtom ws k e).2.2 = 0 ∧ (∀ t ∈ (if rSign ws (rAtom ws k e).2.1 [58, 45] = true ∧ (rAtom ws k e).2.2 = 0 then rBody ws (ws.length + 1) [] ((rAtom ws k e).2.1 + 1) (rAtom ws k e).2.2 else ([], (rAtom ws k e).2.1, (rAtom ws k e).2.2)).1, LG t) ∧ (if rSign ws (rAtom ws k e).2.1 [58, 45] = true ∧ (rAtom ws k e).2.2 = 0 then rBody ws (ws.length + 1) [] ((rAtom ws k e).2.1 + 1) (rAtom ws k e).2.2 else ([], (rAtom ws k e).2.1, (rAtom ws k e).2.2)).1.length ≤ 6 := by
    split at he
    · rename_i hc
      rw [if_pos hc]
      obtain ⟨q1, q2⟩ := rBody_G hw (ws.length + 1) [] ((rAtom ws k e).2.1 + 1) (rAtom ws k e).2.2 (by simp) (by simp) he
      exact ⟨hc.2, q1, q2⟩
    · rename_i hc
      rw [if_neg hc]
      exact ⟨he, by simp, by simp⟩
  obtain ⟨h0, hb1, hb2⟩ := hb
  have ha := rAtom_G hw h0
  generalize (if rSign ws (rAtom ws k e).2.1 [58, 45] = true ∧ (rAtom ws k e).2.2 = 0 then rBody ws (ws.length + 1) [] ((rAtom ws k e).2.1 + 1) (rAtom ws k e).2.2 else ([], (rAtom ws k e).2.1, (rAtom ws k e).2.2)) = b at hb1 hb2
  exact ⟨⟨⟨ha.kind, fun t ht => (ha.tm t ht).1, fun l hl => (hb1 l hl).x.w⟩, ha.nm, fun t ht => (ha.tm t ht).2, fun l hl => (hb1 l hl).x⟩, ha.four, hb2, fun l hl => (hb1 l hl).four⟩
theorem rRules_G {ws : List Wd} (hw : ∀ w ∈ ws, WdG w) : ∀ (n : Nat) (l : List Rl) (k e : Nat), (∀ t ∈ l, RG t) → l.length ≤ 30 → (rRules ws n l k e).2.2 = 0 → (∀ t ∈ (rRules ws n l k e).1, RG t) ∧ (rRules ws n l k e).1.length ≤ 30
  | 0, l, k, e, h, hl, _ => ⟨h, hl⟩
  | n + 1, l, k, e, h, hl, he => by
    by_cases hc : e = 0 ∧ k < ws.length
    case neg => simp only [rRules, if_neg hc]; exact ⟨h, hl⟩
    simp only [rRules, if_pos hc] at he ⊢
    have hz : (if (rClause ws k e).2.2 = 0 ∧ l.length = 30 then 8 else (rClause ws k e).2.2) = 0 := by
      by_cases hz : (if (rClause ws k e).2.2 = 0 ∧ l.length = 30 then 8 else (rClause ws k e).2.2) = 0
      · exact hz
      · rw [rRules_err hz] at he; exact he
    have hr : (rClause ws k e).2.2 = 0 ∧ l.length ≠ 30 := by
      by_cases hc : (rClause ws k e).2.2 = 0 ∧ l.length = 30
      · rw [if_pos hc] at hz; omega
      · rw [if_neg hc] at hz; exact ⟨hz, fun h => hc ⟨hz, h⟩⟩
    have ht := rClause_G hw hr.1
    refine rRules_G hw n _ _ _ (fun t hm => ?_) (by simp; omega) he
    rcases List.mem_append.1 hm with hm | hm
    · exact h t hm
    · simp only [List.mem_cons, List.not_mem_nil, or_false] at hm; subst hm; exact ht
theorem rProgram_G (s : List Nat) : (∀ r ∈ (rProgram s).1, RG r) ∧ (rProgram s).1.length ≤ 30 := by
  unfold rProgram
  split
  · simp
  · have hw : ∀ w ∈ (scan 0 s).1, WdG w := fun w hw => isWd_G (scan_words _ 0 s (Nat.le_refl _) w hw)
    have hG := rRules_G hw ((scan 0 s).1.length + 1) [] 0 0 (by simp) (by simp)
    simp only
    generalize rRules (scan 0 s).1 ((scan 0 s).1.length + 1) [] 0 0 = r at hG ⊢
    by_cases he : rBad r.2.2 (if (scan 0 s).2 = true then 0 else 4) = 0
    · rw [if_pos he]
      have h0 : r.2.2 = 0 := by
        unfold rBad at he
        split at he
        · assumption
        · exact he
      exact hG h0
    · rw [if_neg he]; simp
end Delphi
set_option linter.unusedVariables false
set_option maxRecDepth 10000
set_option linter.unusedSimpArgs false
namespace Go.Proofs.YtegdcbdicpfbpaaGreatDoor
open Go.AE Delphi Val
variable {tab : Tab}
theorem rsign_ok (C : Codes tab) {k : Nat} (hk : 3 ≤ k ∧ k ≤ 6) {aw : AW} {K : V → AW → Prop} (h : ∀ w, Frm (fun _ => False) aw w → K (.str (Go.Proofs.YtegdcbdicpfbpaaGreatDoor.cmpT k)) w) : WF tab n_ref8_sign [.int .i64 (Int.ofNat k)] aw K := by
  refine WF_of C.c_ref8_sign rfl ?_
  obtain ⟨w1, e1, c1, r1, m1⟩ := box1 aw [.str [61], .str [33, 61], .str [60], .str [60, 61]]
  have h := h w1 r1
  have hcase : k = 3 ∨ k = 4 ∨ k = 5 ∨ k = 6 := by omega
  have hov1 : over [V.str [], V.str [], V.str [], V.str []] 0 [V.str [61]] = some [V.str [61], V.str [], V.str [], V.str []] := rfl
  have hov2 : over [V.str [61], V.str [], V.str [], V.str []] 1 [V.str [33, 61]] = some [V.str [61], V.str [33, 61], V.str [], V.str []] := rfl
  have hov3 : over [V.str [61], V.str [33, 61], V.str [], V.str []] 2 [V.str [60]] = some [V.str [61], V.str [33, 61], V.str [60], V.str []] := rfl
  have hov4 : over [V.str [61], V.str [33, 61], V.str [60], V.str []] 3 [V.str [60, 61]] = some [V.str [61], V.str [33, 61], V.str [60], V.str [60, 61]] := rfl
  have a0 : w1.load aw.next 0 1 = some [.str [61]] := CB.ld c1 0 1 _ rfl
  have a1 : w1.load aw.next 1 1 = some [.str [33, 61]] := CB.ld c1 1 1 _ rfl
  have a2 : w1.load aw.next 2 1 = some [.str [60]] := CB.ld c1 2 1 _ rfl
  have a3 : w1.load aw.next 3 1 = some [.str [60, 61]] := CB.ld c1 3 1 _ rfl
  rcases hcase with rfl | rfl | rfl | rfl
  · have hw : IntKind.wrap .i64 (Int.ofNat 3 - 3) = Int.ofNat 0 := by decide
    refine WS_run 1000 (by simp only [go_sem, eRun_exit, Nat.reduceAdd, Nat.reduceLT, Nat.reduceEqDiff, reduceIte, reduceCtorEq, Int.reduceLT, Int.reduceBEq, Int.reduceGE, Int.reduceEq, Int.reduceAdd, Nat.reduceLeDiff, k_ref8_sign, k_ref8_sign_p0, List.length_cons, List.length_nil, evParts, fillV, hov1, hov2, hov3, hov4, e1, hw, a0, Nat.zero_mul, Nat.add_zero, Nat.zero_add]; rfl) ?_
    refine WS_ret ⟨_, by simp only [go_sem, eRun_exit, Nat.reduceAdd, Nat.reduceLT, Nat.reduceEqDiff, reduceIte, reduceCtorEq, Int.reduceLT, Int.reduceBEq, Int.reduceGE, Int.reduceEq, Int.reduceAdd, Nat.reduceLeDiff, k_ref8_sign]; rfl, ?_⟩
    exact h
  · have hw : IntKind.wrap .i64 (Int.ofNat 4 - 3) = Int.ofNat 1 := by decide
    refine WS_run 1000 (by simp only [go_sem, eRun_exit, Nat.reduceAdd, Nat.reduceLT, Nat.reduceEqDiff, reduceIte, reduceCtorEq, Int.reduceLT, Int.reduceBEq, Int.reduceGE, Int.reduceEq, Int.reduceAdd, Nat.reduceLeDiff, k_ref8_sign, k_ref8_sign_p0, List.length_cons, List.length_nil, evParts, fillV, hov1, hov2, hov3, hov4, e1, hw, a1, Nat.zero_add, Nat.one_mul]; rfl) ?_
    refine WS_ret ⟨_, by simp only [go_sem, eRun_exit, Nat.reduceAdd, Nat.reduceLT, Nat.reduceEqDiff, reduceIte, reduceCtorEq, Int.reduceLT, Int.reduceBEq, Int.reduceGE, Int.reduceEq, Int.reduceAdd, Nat.reduceLeDiff, k_ref8_sign]; rfl, ?_⟩
    exact h
  · have hw : IntKind.wrap .i64 (Int.ofNat 5 - 3) = Int.ofNat 2 := by decide
    refine WS_run 1000 (by simp only [go_sem, eRun_exit, Nat.reduceAdd, Nat.reduceLT, Nat.reduceEqDiff, reduceIte, reduceCtorEq, Int.reduceLT, Int.reduceBEq, Int.reduceGE, Int.reduceEq, Int.reduceAdd, Nat.reduceLeDiff, k_ref8_sign, k_ref8_sign_p0, List.length_cons, List.length_nil, evParts, fillV, hov1, hov2, hov3, hov4, e1, hw, a2, Nat.zero_add]; rfl) ?_
    refine WS_ret ⟨_, by simp only [go_sem, eRun_exit, Nat.reduceAdd, Nat.reduceLT, Nat.reduceEqDiff, reduceIte, reduceCtorEq, Int.reduceLT, Int.reduceBEq, Int.reduceGE, Int.reduceEq, Int.reduceAdd, Nat.reduceLeDiff, k_ref8_sign]; rfl, ?_⟩
    exact h
  · have hw : IntKind.wrap .i64 (Int.ofNat 6 - 3) = Int.ofNat 3 := by decide
    refine WS_run 1000 (by simp only [go_sem, eRun_exit, Nat.reduceAdd, Nat.reduceLT, Nat.reduceEqDiff, reduceIte, reduceCtorEq, Int.reduceLT, Int.reduceBEq, Int.reduceGE, Int.reduceEq, Int.reduceAdd, Nat.reduceLeDiff, k_ref8_sign, k_ref8_sign_p0, List.length_cons, List.length_nil, evParts, fillV, hov1, hov2, hov3, hov4, e1, hw, a3, Nat.zero_add]; rfl) ?_
    refine WS_ret ⟨_, by simp only [go_sem, eRun_exit, Nat.reduceAdd, Nat.reduceLT, Nat.reduceEqDiff, reduceIte, reduceCtorEq, Int.reduceLT, Int.reduceBEq, Int.reduceGE, Int.reduceEq, Int.reduceAdd, Nat.reduceLeDiff, k_ref8_sign]; rfl, ?_⟩
    exact h
theorem bodyS_len {ls : List Lt} (h : ∀ x ∈ ls, LtP x) : (bodyS (ls.map litS)).length ≤ 4 + ls.length * 7000000000002 := by
  cases ls with
  | nil => simp [bodyS]
  | cons a l =>
    have := joinN_len h
    show ([32, 58, 45, 32] ++ joinN ((a :: l).map litS)).length ≤ _
    rw [List.length_append]
    simp only [List.length_cons, List.length_nil] at this ⊢
    omega
theorem addB (a b : List Nat) (h : a.length + b.length ≤ 1000000000000000) : ∃ c, c = a ++ b ∧ strS BinOp.add a b = some (.str c) := by
  refine ⟨_, rfl, ?_⟩
  simp only [strS]; rw [if_pos (by omega)]
def RlF (p : Nat) (i : Nat) (s : List Nat) (f : Fr) : Prop := f.get 1 = some (.ptr p 0) ∧ f.get 3 = some (.str s) ∧ f.get 4 = some (.int .i64 (Int.ofNat i))
theorem rr_lit (C : Codes tab) {T : Nat → Prop} {t : Lt} {xv : V} {b o i p : Nat} {n : Nat} {c : Cap} {s1 : List Nat} {f : Fr} {w : AW} {st : List SI} {Q : Fr → AW → Prop}
    (hx2 : Rd T w xv 3 t.args.length (tmsC t.args)) (b3 : w.load p 3 1 = some [.slice b o n c]) (hi : i < n) (la : w.load b (o + i * 3) 3 = some [V.int .i64 (Int.ofNat t.kind), V.str t.name, xv])
    (hP : LtP t) (hs : s1.length ≤ 100000000000010) (hf : RlF p i s1 f) (h : ∀ f' w', RlF p i (s1 ++ litS t) f' → Frm (fun _ => False) w w' → WS tab st f' w' Q) : WS tab (.code k_ref8_PrintRule_p7 :: st) f w Q := by
  obtain ⟨f1, f3, f4⟩ := hf
  obtain ⟨u1, hu1⟩ : ∃ u, u = litS t := ⟨_, rfl⟩
  have hul : u1.length ≤ 7000000000000 := by rw [hu1]; exact litS_len hP
  obtain ⟨w3, s3, c3, r3, n3⟩ := boxed w (zs := [V.int .i64 0, V.str [], V.nilslice]) (vs := [V.int .i64 (Int.ofNat t.kind), V.str t.name, xv]) rfl (LtC.one ⟨xv, rfl, hx2⟩).2
  have k0 := CB.ld c3 0 1 _ rfl
  have k1 := CB.ld c3 1 1 _ rfl
  have k2 := CB.ld c3 2 1 _ rfl
  have hx3 := hx2.frm r3 fun _ _ h => h
  have htk3 : Rd T w3 xv 3 (t.args.map tkOf).length (tksC (t.args.map tkOf)) := by rw [List.length_map, ← tmsC_tk]; exact hx3
  have hatl := atomS_len hP
  have hfin : strS BinOp.add s1 u1 = some (.str (s1 ++ u1)) := by simp only [strS]; rw [if_pos (by omega)]
  have hn3 : (3 : Nat) = [V.int .i64 (Int.ofNat t.kind), V.str t.name, xv].length := rfl
  rcases hP.kind with hk | hk | hk
  · have hr : u1 = atomS t.name (t.args.map tkOf) := by rw [hu1]; exact if_pos hk
    rw [hk] at la s3 k0
    refine WS_run 1000 (by simp only [go_sem, eRun_exit, Nat.reduceAdd, Nat.reduceLT, Nat.reduceEqDiff, reduceIte, reduceCtorEq, Int.reduceLT, Int.reduceBEq, Int.reduceGE, Int.reduceEq, Int.reduceAdd, Nat.reduceLeDiff, k_ref8_PrintRule_p7, k_ref8_PrintRule_p6, k_ref8_PrintRule_p4, f1, f3, f4, b3, hi, la, List.length_cons, List.length_nil, s3, k0, k1, k2]; rfl) ?_
    refine WS_call (by simp only [go_sem, eRun_exit, Nat.reduceAdd, Nat.reduceLT, Nat.reduceEqDiff, reduceIte, reduceCtorEq, Int.reduceBEq, Int.reduceBNe, Int.reduceLT, Int.reduceLE, Int.reduceGT, Int.reduceGE, Int.reduceEq, Int.reduceAdd, Int.reduceSub, Int.reduceMul, Nat.reduceMul, Nat.reduceSub, Nat.reduceLeDiff]) (by simp only [go_sem, eRun_exit, Nat.reduceAdd, Nat.reduceLT, Nat.reduceEqDiff, reduceIte, reduceCtorEq, Int.reduceBEq, Int.reduceBNe, Int.reduceLT, Int.reduceLE, Int.reduceGT, Int.reduceGE, Int.reduceEq, Int.reduceAdd, Int.reduceSub, Int.reduceMul, Nat.reduceMul, Nat.reduceSub, Nat.reduceLeDiff]; rfl) ?_
    refine Val.rAtom_ok C htk3 (by rw [List.length_map]; exact hP.ar) hP.nm hP.tks fun w4 g4 => ?_
    rw [← hr]
    refine WS_runB 1000 (by simp only [go_sem, eRun_exit, simprocAttr, hfin]; rfl) ?_
    rw [← hu1] at h
    exact h _ _ ⟨(by simp only [go_sem, eRun_exit, simprocAttr, f1] <;> rfl), (by simp only [go_sem, eRun_exit, simprocAttr] <;> rfl), (by simp only [go_sem, eRun_exit, simprocAttr, f4] <;> rfl)⟩ (r3.tr g4)
  · have hr : u1 = 33 :: atomS t.name (t.args.map tkOf) := by rw [hu1]; unfold litS; rw [if_neg (by omega), if_pos hk]
    rw [hk] at la s3 k0
    have hadd : strS BinOp.add [33] (atomS t.name (t.args.map tkOf)) = some (.str u1) := by
      rw [hr]; simp only [strS, List.length_cons, List.length_nil]; rw [if_pos (by omega)]; rfl
    refine WS_run 1000 (by simp only [go_sem, eRun_exit, Nat.reduceAdd, Nat.reduceLT, Nat.reduceEqDiff, reduceIte, reduceCtorEq, Int.reduceLT, Int.reduceBEq, Int.reduceGE, Int.reduceEq, Int.reduceAdd, Nat.reduceLeDiff, k_ref8_PrintRule_p7, k_ref8_PrintRule_p6, k_ref8_PrintRule_p5, k_ref8_PrintRule_p2, f1, f3, f4, b3, hi, la, List.length_cons, List.length_nil, s3, k0, k1, k2]; rfl) ?_
    refine WS_call (by simp only [go_sem, eRun_exit, Nat.reduceAdd, Nat.reduceLT, Nat.reduceEqDiff, reduceIte, reduceCtorEq, Int.reduceBEq, Int.reduceBNe, Int.reduceLT, Int.reduceLE, Int.reduceGT, Int.reduceGE, Int.reduceEq, Int.reduceAdd, Int.reduceSub, Int.reduceMul, Nat.reduceMul, Nat.reduceSub, Nat.reduceLeDiff]) (by simp only [go_sem, eRun_exit, Nat.reduceAdd, Nat.reduceLT, Nat.reduceEqDiff, reduceIte, reduceCtorEq, Int.reduceBEq, Int.reduceBNe, Int.reduceLT, Int.reduceLE, Int.reduceGT, Int.reduceGE, Int.reduceEq, Int.reduceAdd, Int.reduceSub, Int.reduceMul, Nat.reduceMul, Nat.reduceSub, Nat.reduceLeDiff]; rfl) ?_
    refine Val.rAtom_ok C htk3 (by rw [List.length_map]; exact hP.ar) hP.nm hP.tks fun w4 g4 => ?_
    refine WS_runB 1000 (by simp only [go_sem, eRun_exit, simprocAttr, hadd, hfin]; rfl) ?_
    rw [← hu1] at h
    exact h _ _ ⟨(by simp only [go_sem, eRun_exit, simprocAttr, f1] <;> rfl), (by simp only [go_sem, eRun_exit, simprocAttr] <;> rfl), (by simp only [go_sem, eRun_exit, simprocAttr, f4] <;> rfl)⟩ (r3.tr g4)
  · have h2 : t.args.length = 2 := hk.2.2
    obtain ⟨a, b, hab⟩ : ∃ a b, t.args = [a, b] := by
      match hh : t.args, h2 with
      | [a, b], _ => exact ⟨a, b, rfl⟩
    obtain ⟨kk, hkk⟩ : ∃ kk, kk = t.kind := ⟨_, rfl⟩
    have hk1 : ¬ kk = 1 := by omega
    have hk2 : ¬ kk = 2 := by omega
    have hk36 : 3 ≤ kk ∧ kk ≤ 6 := by omega
    rw [← hkk] at la s3 k0
    have ha := hP.tm a (by rw [hab]; simp)
    have hb := hP.tm b (by rw [hab]; simp)
    obtain ⟨q1, hq1⟩ : ∃ q, q = prT (tkOf a) := ⟨_, rfl⟩
    obtain ⟨q2, hq2⟩ : ∃ q, q = prT (tkOf b) := ⟨_, rfl⟩
    have hq1' : (if (tkOf a).k = 3 then fmtI (tkOf a).n else (tkOf a).s) = q1 := hq1.symm
    have hq2' : (if (tkOf b).k = 3 then fmtI (tkOf b).n else (tkOf b).s) = q2 := hq2.symm
    have hl1 : q1.length ≤ 1000000000000 := by rw [hq1]; have := ha.len; omega
    have hl2 : q2.length ≤ 1000000000000 := by rw [hq2]; have := hb.len; omega
    have hcl := cmpT_len kk
    have hr : u1 = q1 ++ [32] ++ cmpT kk ++ [32] ++ q2 := by
      rw [hu1, hq1, hq2, hkk]
      unfold litS
      rw [if_neg (by omega), if_neg (by omega), hab]
    obtain ⟨d1, hd1, e1⟩ := addB q1 [32] (by simp only [List.length_cons, List.length_nil]; omega)
    have hdl1 : d1.length = q1.length + 1 := by rw [hd1, List.length_append]; rfl
    obtain ⟨d2, hd2, e2⟩ := addB d1 (cmpT kk) (by omega)
    have hdl2 : d2.length = d1.length + (cmpT kk).length := by rw [hd2, List.length_append]
    obtain ⟨d3, hd3, e3⟩ := addB d2 [32] (by simp only [List.length_cons, List.length_nil]; omega)
    have hdl3 : d3.length = d2.length + 1 := by rw [hd3, List.length_append]; rfl
    obtain ⟨d4, hd4, e4⟩ := addB d3 q2 (by omega)
    have hdu : d4 = u1 := by rw [hr, hd4, hd3, hd2, hd1]
    subst hdu
    obtain ⟨bb, o', c', rfl, _, hbl, ta, _⟩ := tms_at hx3 (i := 0) (t := a) (by rw [hab]; rfl)
    obtain ⟨_, _, _, he, _, _, tb, _⟩ := tms_at hx3 (i := 1) (t := b) (by rw [hab]; rfl)
    cases he
    rw [h2] at k2 la s3 c3
    rw [← hkk] at c3
    rw [Nat.zero_mul, Nat.add_zero] at ta
    have tb : w3.load bb (o' + 3) 3 = some (tmC b) := tb
    refine WS_run 1000 (by simp only [go_sem, eRun_exit, simprocAttr, k_ref8_PrintRule_p7, k_ref8_PrintRule_p6, k_ref8_PrintRule_p5, k_ref8_PrintRule_p3, f1, f3, f4, b3, hi, la, List.length_cons, List.length_nil, s3, k0, k1, k2, hk1, hk2]; rfl) ?_
    refine WS_drawn ?_
    refine WDs_run 100 (by simp only [go_sem, eRun_exit, simprocAttr, f3, k2, ta]; rfl) ?_
    refine WDs_call (by simp only [go_sem, eRun_exit, simprocAttr]) (by simp only [go_sem, eRun_exit, simprocAttr]; rfl) ?_
    refine Val.rPrint_ok C (t := tkOf a) ha.num fun w4 g4 => ?_
    rw [hq1']
    have c4 := c3.frm g4 fun h => h
    have k0' := CB.ld c4 0 1 _ rfl
    have k2' := CB.ld c4 2 1 _ rfl
    have hx4 := hx3.frm g4 fun _ _ h => h
    obtain ⟨_, _, _, he, _, _, tb', _⟩ := tms_at hx4 (i := 1) (t := b) (by rw [hab]; rfl)
    cases he
    have tb' : w4.load bb (o' + 3) 3 = some (tmC b) := tb'
    refine WDs_run 100 (by simp only [go_sem, eRun_exit, simprocAttr, e1, k0']; rfl) ?_
    refine WDs_call (by simp only [go_sem, eRun_exit, simprocAttr]) (by simp only [go_sem, eRun_exit, simprocAttr]; rfl) ?_
    refine rsign_ok C hk36 fun w5 g5 => ?_
    have hcc : Go.Proofs.YtegdcbdicpfbpaaGreatDoor.cmpT kk = Delphi.cmpT kk := rfl
    have c5 := c4.frm g5 fun h => h
    have k0'' := CB.ld c5 0 1 _ rfl
    have k2'' := CB.ld c5 2 1 _ rfl
    obtain ⟨_, _, _, he, _, _, tb'', _⟩ := tms_at (hx4.frm g5 fun _ _ h => h) (i := 1) (t := b) (by rw [hab]; rfl)
    cases he
    have tb'' : w5.load bb (o' + 3) 3 = some (tmC b) := tb''
    refine WDs_run 100 (by simp only [go_sem, eRun_exit, simprocAttr, e2, e3, k2'', tb'']; rfl) ?_
    refine WDs_call (by simp only [go_sem, eRun_exit, simprocAttr]) (by simp only [go_sem, eRun_exit, simprocAttr]; rfl) ?_
    refine Val.rPrint_ok C (t := tkOf b) hb.num fun w6 g6 => ?_
    rw [hq2']
    refine WDs_run 100 (by simp only [go_sem, eRun_exit, simprocAttr, e4, hfin]; rfl) ?_
    refine WDs_nil ⟨(show chkAll _ _ [(8, 5), (13, 5), (13, 9), (15, 5), (15, 9)] from by simp only [go_sem, eRun_exit, simprocAttr, chkAll, chk, List.reverse_cons, List.reverse_nil, mkStp_fe, mkStp_v, mkStp_0, mkStp_1, List.getElem?_nil, false_or, or_true, or_false, exists_eq', Option.some.injEq, Prod.mk.injEq, Bool.true_eq_false, Bool.false_eq_true, and_true, true_and, implies_true,  k0, k0', k0'', k2, k2', k2'', tb, tb', tb'']), ?_⟩
    refine WS_runB 1000 (by simp only [go_sem, eRun_exit, simprocAttr]; rfl) ?_
    rw [← hu1] at h
    exact h _ _ ⟨(by simp only [go_sem, eRun_exit, simprocAttr, f1] <;> rfl), (by simp only [go_sem, eRun_exit, simprocAttr] <;> rfl), (by simp only [go_sem, eRun_exit, simprocAttr, f4] <;> rfl)⟩ (((r3.tr g4).tr g5).tr g6)
def RrI (p : Nat) (w1 : AW) (r : Rl) (q : Nat) (f : Fr) (w : AW) : Prop :=
  ∃ i s, s = atomS r.head.name (r.head.args.map tkOf) ++ bodyS ((r.body.take i).map litS) ∧ f.get 1 = some (.ptr p 0) ∧ f.get 3 = some (.str s) ∧ f.get 4 = some (.int .i64 (Int.ofNat i)) ∧ Frm (fun _ => False) w1 w ∧ i ≤ r.body.length ∧ q = r.body.length - i
theorem rruleS_ok (C : Codes tab) {T : Nat → Prop} {r : Rl} {xs : List V} {aw : AW} {K : V → AW → Prop} (hx : RlC T aw r xs) (hp : RlP r) (h : ∀ w, Frm (fun _ => False) aw w → K (.str (ruleS r)) w) : WF tab n_ref8_PrintRule [.agg xs] aw K := by
  refine WF_of C.c_ref8_PrintRule rfl ?_
  obtain ⟨xv, xb, rfl, hxh, hxb⟩ := hx
  obtain ⟨w1, e1, c1, r1, m1⟩ := box1 aw [.int .i64 (Int.ofNat r.head.kind), .str r.head.name, xv, xb]
  have a1 := CB.ld c1 1 1 _ rfl
  have a2 := CB.ld c1 2 1 _ rfl
  have hbv : lenV xb = some r.body.length := by obtain ⟨xss, q1, _⟩ := hxb; exact q1.lenV
  have hbl := hp.body
  have htk : Rd T w1 xv 3 (r.head.args.map tkOf).length (tksC (r.head.args.map tkOf)) := by rw [List.length_map, ← tmsC_tk]; exact hxh.frm r1 fun _ _ h => h
  have hal := atomS_len hp.head
  refine WS_run 1000 (by simp only [go_sem, eRun_exit, simprocAttr, k_ref8_PrintRule, k_ref8_PrintRule_p10, e1, a1, a2]; rfl) ?_
  refine WS_call (by simp only [go_sem, eRun_exit, simprocAttr]) (by simp only [go_sem, eRun_exit, simprocAttr]; rfl) ?_
  refine Val.rAtom_ok C htk (by rw [List.length_map]; exact hp.head.ar) hp.head.nm hp.head.tks fun w2 g2 => ?_
  have f02 := r1.tr g2
  obtain ⟨s0, hs0⟩ : ∃ s0, s0 = atomS r.head.name (r.head.args.map tkOf) := ⟨_, rfl⟩
  rw [← hs0]
  refine WS_run 1000 (by simp only [go_sem, eRun_exit, simprocAttr, k_ref8_PrintRule_p10]; rfl) ?_
  refine WS_loopJ (RrI aw.next w2 r) (RrI aw.next w2 r 0) ?_ ?_ r.body.length ⟨0, s0, by rw [hs0, List.take_zero]; simp [bodyS], (by simp only [go_sem, eRun_exit, simprocAttr] <;> rfl), (by simp only [go_sem, eRun_exit, simprocAttr] <;> rfl), (by simp only [go_sem, eRun_exit, simprocAttr] <;> rfl), Frm.refl _, Nat.zero_le _, rfl⟩
  · rintro q f w ⟨i, s, hs, f1, f3, f4, g, hi, rfl⟩ ih out
    have cw := c1.frm (g2.tr g) fun h => h
    have b3 := CB.ld cw 3 1 _ rfl
    have f0w := f02.tr g
    by_cases hlt : i < r.body.length
    case neg =>
      refine WS_runB 1000 (by simp only [go_sem, simprocAttr, k_ref8_PrintRule_p9, f1, f4, b3, hbv, hlt]; rfl) ?_
      exact out _ _ _ ⟨i, s, hs, (by simp only [go_sem, eRun_exit, simprocAttr, f1] <;> rfl), (by simp only [go_sem, eRun_exit, simprocAttr, f3] <;> rfl), (by simp only [go_sem, eRun_exit, simprocAttr, f4] <;> rfl), g, hi, by omega⟩ rfl
    obtain ⟨t, ht⟩ : ∃ t, r.body[i]? = some t := ⟨_, List.getElem?_eq_getElem hlt⟩
    have hsl : s.length ≤ 100000000000000 := by
      have h1 := bodyS_len (ls := r.body.take i) fun x hx => hp.lits x (List.mem_of_mem_take hx)
      rw [List.length_take, Nat.min_eq_left hi] at h1
      rw [hs, List.length_append]
      omega
    have htake : r.body.take (i + 1) = r.body.take i ++ [t] := by rw [List.take_add_one, ht]; rfl
    have hP := hp.lits t (List.mem_of_getElem? ht)
    have hwr : IntKind.wrap .i64 (Int.ofNat i + 1) = Int.ofNat (i + 1) := wrap_succ (by omega)
    obtain ⟨b, o, c, ys, rfl, la, ha⟩ := lts_at (hxb.frm (fun _ _ h => h.frm f0w fun _ _ h => h) f0w fun _ _ h => h) ht
    obtain ⟨xv2, rfl, hx2⟩ := ha
    have hP := hp.lits t (List.mem_of_getElem? ht)
    have hwr : IntKind.wrap .i64 (Int.ofNat i + 1) = Int.ofNat (i + 1) := wrap_succ (by omega)
    have la' : w.load b (o + i * 3) 3 = some [V.int .i64 (Int.ofNat t.kind), V.str t.name, xv2] := la
    by_cases hi0 : i = 0
    · obtain ⟨s1, hs1, e1⟩ := addB s [32, 58, 45, 32] (by simp only [List.length_cons, List.length_nil]; omega)
      have hs1l : s1.length ≤ 100000000000010 := by rw [hs1, List.length_append]; simp only [List.length_cons, List.length_nil]; omega
      have hnew : s1 ++ litS t = atomS r.head.name (r.head.args.map tkOf) ++ bodyS ((r.body.take (i + 1)).map litS) := by
        rw [htake, List.map_append, List.map_cons, List.map_nil, bodyS_snoc, if_pos (by rw [hi0]; rfl), hs1, hs]
        simp only [List.append_assoc]
      have hlt0 : 0 < r.body.length := by omega
      have f4' : f.get 4 = some (.int .i64 (Int.ofNat 0)) := by rw [f4, hi0]
      refine WS_runB 25 (by simp only [go_sem, eRun_exit, simprocAttr, k_ref8_PrintRule_p9, k_ref8_PrintRule_p8, k_ref8_PrintRule_p0, f1, f3, f4', b3, hbv, hlt0, e1]; rfl) ?_
      refine rr_lit (i := i) C hx2 b3 hlt la' hP hs1l ⟨(by simp only [go_sem, eRun_exit, simprocAttr, f1] <;> rfl), (by simp only [go_sem, eRun_exit, simprocAttr] <;> rfl), by rw [hi0]; exact (by simp only [go_sem, eRun_exit, simprocAttr, f4'] <;> rfl)⟩ ?_
      rintro f5 w5 ⟨h1, h3, h4⟩ g5
      refine WS_run 1000 (by simp only [go_sem, eRun_exit, simprocAttr, h4, hwr]; rfl) ?_
      exact ih _ _ _ (by omega) ⟨i + 1, _, hnew, (by simp only [go_sem, eRun_exit, simprocAttr, h1] <;> rfl), (by simp only [go_sem, eRun_exit, simprocAttr, h3] <;> rfl), (by simp only [go_sem, eRun_exit, simprocAttr] <;> rfl), g.tr g5, by omega, rfl⟩
    · obtain ⟨s1, hs1, e1⟩ := addB s [44, 32] (by simp only [List.length_cons, List.length_nil]; omega)
      have hs1l : s1.length ≤ 100000000000010 := by rw [hs1, List.length_append]; simp only [List.length_cons, List.length_nil]; omega
      have hne : ¬ (r.body.take i).map litS = [] := by
        rw [List.map_eq_nil_iff, List.take_eq_nil_iff]
        rintro (h | h)
        · exact hi0 h
        · rw [h] at hlt; simp at hlt
      have hnew : s1 ++ litS t = atomS r.head.name (r.head.args.map tkOf) ++ bodyS ((r.body.take (i + 1)).map litS) := by
        rw [htake, List.map_append, List.map_cons, List.map_nil, bodyS_snoc, if_neg hne, hs1, hs]
        simp only [List.append_assoc]
      refine WS_runB 25 (by simp only [go_sem, eRun_exit, simprocAttr, k_ref8_PrintRule_p9, k_ref8_PrintRule_p8, k_ref8_PrintRule_p1, f1, f3, f4, b3, hbv, hlt, hi0, e1]; rfl) ?_
      refine rr_lit (i := i) C hx2 b3 hlt la' hP hs1l ⟨(by simp only [go_sem, eRun_exit, simprocAttr, f1] <;> rfl), (by simp only [go_sem, eRun_exit, simprocAttr] <;> rfl), (by simp only [go_sem, eRun_exit, simprocAttr, f4] <;> rfl)⟩ ?_
      rintro f5 w5 ⟨h1, h3, h4⟩ g5
      refine WS_run 1000 (by simp only [go_sem, eRun_exit, simprocAttr, h4, hwr]; rfl) ?_
      exact ih _ _ _ (by omega) ⟨i + 1, _, hnew, (by simp only [go_sem, eRun_exit, simprocAttr, h1] <;> rfl), (by simp only [go_sem, eRun_exit, simprocAttr, h3] <;> rfl), (by simp only [go_sem, eRun_exit, simprocAttr] <;> rfl), g.tr g5, by omega, rfl⟩
  · rintro f w ⟨i, s, hs, f1, f3, f4, g, hi, hq⟩
    obtain rfl : i = r.body.length := by omega
    rw [List.take_length] at hs
    have hsl : s.length ≤ 100000000000000 := by
      have h1 := bodyS_len (ls := r.body) hp.lits
      rw [hs, List.length_append]
      omega
    have hadd : strS BinOp.add s [46] = some (.str (s ++ [46])) := by simp only [strS, List.length_cons, List.length_nil]; rw [if_pos (by omega)]
    have hr : ruleS r = s ++ [46] := by rw [hs]; rfl
    rw [hr] at h
    refine WS_run 1000 (by simp only [go_sem, eRun_exit, simprocAttr, f3, hadd]; rfl) ?_
    refine WS_ret ⟨_, by simp only [go_sem, eRun_exit, simprocAttr, k_ref8_PrintRule]; rfl, ?_⟩
    exact h w (f02.tr g)
end Go.Proofs.YtegdcbdicpfbpaaGreatDoor
set_option linter.unusedVariables false
set_option maxRecDepth 10000
set_option linter.unusedSimpArgs false
namespace Go.Proofs.YtegdcbdicpfbpaaGreatDoor
open Go.AE Delphi Val
variable {tab : Tab}
theorem prT_tk (t : Tm) : prT (tkOf t) = tmX fmtI t := by
  unfold prT tmX tkOf
  by_cases h : t.kind = 3
  · rw [if_pos h, if_pos (by show Int.ofNat t.kind = 3; rw [h]; rfl)]
  · rw [if_neg h, if_neg (by show ¬ Int.ofNat t.kind = 3; intro hh; exact h (Int.ofNat.inj hh))]
theorem qS_tk (l : List Tm) : qS (l.map tkOf) = qX fmtI l := by
  cases l with
  | nil => rfl
  | cons t l =>
    simp only [List.map_cons, qS, qX, prT_tk, List.flatMap_map]
theorem atomS_tk (nm : List Nat) (l : List Tm) : atomS nm (l.map tkOf) = atomX fmtI nm l := by
  cases l with
  | nil => rfl
  | cons t l =>
    have := qS_tk (t :: l)
    simp only [List.map_cons] at this ⊢
    simp only [atomS, atomX, this]
theorem litS_tk (l : Lt) : litS l = litX fmtI l := by
  unfold litS litX
  rw [atomS_tk]
  split
  · rfl
  · split
    · rfl
    · split
      · rename_i a b hab
        rw [hab, prT_tk, prT_tk]; rfl
      · rename_i hab
        split
        · rename_i a b h; exact absurd h (hab a b)
        · rfl
theorem ruleS_tk (r : Rl) : ruleS r = ruleX fmtI r := by
  unfold ruleS ruleX
  rw [atomS_tk]
  have : bodyS (r.body.map litS) = bodyX fmtI r.body := by
    cases r.body with
    | nil => rfl
    | cons b l => simp only [List.map_cons, bodyS, joinN, bodyX, litS_tk, List.flatMap_map]
  rw [this]
theorem tkPr_G {t : Tm} (h : TmW t) (hx : TmX fmtI t) : TkPr (tkOf t) := by
  have hn : t.num.natAbs ≤ 2147483648 := by rcases h with h | h | h <;> omega
  refine ⟨hn, ?_⟩
  rw [prT_tk]
  unfold tmX
  split
  · rename_i h3
    have := (hx.2.2 h3).1
    omega
  · rename_i h3
    rcases h with h | h | h
    · obtain ⟨_, _, _, _, _, h⟩ := hx.1 h.1; omega
    · obtain ⟨_, _, _, _, _, h⟩ := hx.2.1 h.1; omega
    · exact absurd h.1 h3
theorem nameT_le {s : List Nat} (h : nameT s) : s.length ≤ 1000 := by obtain ⟨_, _, _, _, _, h⟩ := h; omega
theorem ltP_G {l : Lt} (h : LtX fmtI l) (h4 : l.args.length ≤ 4) : LtP l := by
  refine ⟨?_, ?_, by omega, fun t ht => tkPr_G (h.w.tm t ht) (h.tm t ht)⟩
  · rcases h.w.kind with (h | h) | h
    · exact .inl h
    · exact .inr (.inl h)
    · exact .inr (.inr ⟨h.1, h.2.1, h.2.2.1⟩)
  · rcases h.w.kind with h1 | h1
    · exact nameT_le (h.nm h1)
    · rw [h1.2.2.2]; simp
theorem rlP_G {r : Rl} (h : RG r) : RlP r := by
  obtain ⟨hx, hl⟩ := h
  refine ⟨⟨.inl hx.w.hk, nameT_le hx.nm, by have := hl.hd; omega, fun t ht => tkPr_G (hx.w.ht t ht) (hx.tm t ht)⟩, hx.w.hk, by have := hl.bd; omega, fun l hm => ltP_G (hx.bd l hm) (hl.ls l hm)⟩
theorem ruleS_len {r : Rl} (h : RlP r) : (ruleS r).length ≤ 100000000000000 := by
  have h1 := atomS_len h.head
  have h2 := bodyS_len h.lits
  have h3 := h.body
  unfold ruleS
  simp only [List.length_append, List.length_cons, List.length_nil]
  omega
theorem allX_len : ∀ {l : List Rl}, (∀ r ∈ l, RlP r) → (allX fmtI l).length ≤ l.length * 100000000000001
  | [], _ => by simp [allX]
  | r :: l, h => by
    have h1 := ruleS_len (h r (by simp))
    have h2 := allX_len (l := l) fun x hx => h x (by simp [hx])
    rw [ruleS_tk] at h1
    simp only [allX, List.length_append, List.length_cons]
    omega
theorem allX_snoc : ∀ (l : List Rl) (r : Rl), allX fmtI (l ++ [r]) = allX fmtI l ++ (ruleS r ++ [10])
  | [], r => by simp [allX, ruleS_tk]
  | x :: l, r => by simp [allX, allX_snoc l r]
theorem named_lt {x : Nat} (h : isNamed x = true) : x < 256 := by
  simp only [isNamed, isSmall, isDigit, Bool.or_eq_true, Bool.and_eq_true, decide_eq_true_eq] at h; omega
theorem varC_lt {x : Nat} (h : isVarC x = true) : x < 256 := by
  simp only [isVarC, isNamed, isGreat, isSmall, isDigit, Bool.or_eq_true, Bool.and_eq_true, decide_eq_true_eq] at h; omega
theorem digit_lt {x : Nat} (h : isDigit x = true) : x < 256 := by
  simp only [isDigit, Bool.and_eq_true, decide_eq_true_eq] at h; omega
theorem nameT_b {s : List Nat} (h : nameT s) : ∀ x ∈ s, x < 256 := by
  obtain ⟨_, _, _, _, h, _⟩ := h
  exact fun x hx => named_lt (h x hx)
theorem tmX_b {t : Tm} (h : TmW t) (hx : TmX fmtI t) : ∀ x ∈ tmX fmtI t, x < 256 := by
  intro x
  unfold tmX
  split
  · rename_i h3
    obtain ⟨_, h⟩ := hx.2.2 h3
    rcases h with h | ⟨m, c, r, h, hm, hc, _, hr⟩
    · rw [h]; simp only [List.mem_cons, List.not_mem_nil, or_false]; omega
    · rw [h]
      simp only [List.mem_append, List.mem_cons]
      rintro (h | h | h)
      · rcases hm with rfl | rfl
        · simp at h
        · simp only [List.mem_cons, List.not_mem_nil, or_false] at h; omega
      · rw [h]; exact digit_lt hc
      · exact digit_lt (hr x h)
  · rename_i h3
    intro hm
    rcases h with h | h | h
    · obtain ⟨_, _, _, _, h, _⟩ := hx.1 h.1; exact varC_lt (h x hm)
    · exact nameT_b (hx.2.1 h.1) x hm
    · exact absurd h.1 h3
theorem qX_b {l : List Tm} (h : ∀ t ∈ l, ∀ x ∈ tmX fmtI t, x < 256) : ∀ x ∈ qX fmtI l, x < 256 := by
  cases l with
  | nil => simp [qX]
  | cons t l =>
    intro x
    simp only [qX, List.mem_append, List.mem_flatMap, List.mem_cons, List.not_mem_nil, or_false]
    rintro (hx | ⟨u, hu, hx⟩)
    · exact h t (by simp) x hx
    · rcases hx with (hx | hx) | hx
      · omega
      · omega
      · exact h u (by simp [hu]) x hx
theorem atomX_b {nm : List Nat} {l : List Tm} (hn : ∀ x ∈ nm, x < 256) (h : ∀ t ∈ l, ∀ x ∈ tmX fmtI t, x < 256) : ∀ x ∈ atomX fmtI nm l, x < 256 := by
  cases l with
  | nil => exact hn
  | cons t l =>
    have := qX_b h
    intro x
    simp only [atomX, List.mem_append, List.mem_cons, List.not_mem_nil, or_false]
    rintro (((hx | hx) | hx) | hx)
    · exact hn x hx
    · omega
    · exact this x hx
    · omega
theorem cmpT_b (k : Nat) : ∀ x ∈ Delphi.cmpT k, x < 256 := by
  intro x hx
  have : x = 61 ∨ x = 33 ∨ x = 60 := by
    unfold Delphi.cmpT at hx
    (repeat' split at hx) <;> simp at hx <;> omega
  omega
theorem litX_b {l : Lt} (h : LtX fmtI l) : ∀ x ∈ litX fmtI l, x < 256 := by
  have ht : ∀ t ∈ l.args, ∀ x ∈ tmX fmtI t, x < 256 := fun t ht => tmX_b (h.w.tm t ht) (h.tm t ht)
  intro x
  unfold litX
  split
  · rename_i h1
    exact atomX_b (nameT_b (h.nm (.inl h1))) ht x
  · split
    · rename_i h1
      intro hx
      rcases List.mem_cons.1 hx with hx | hx
      · omega
      · exact atomX_b (nameT_b (h.nm (.inr h1))) ht x hx
    · split
      · rename_i a b hab
        rw [hab] at ht
        simp only [List.mem_append, List.mem_cons, List.not_mem_nil, or_false]
        rintro ((((hx | hx) | hx) | hx) | hx)
        · exact ht a (by simp) x hx
        · omega
        · exact cmpT_b _ x hx
        · omega
        · exact ht b (by simp) x hx
      · intro hx; simp at hx
theorem ruleX_b {r : Rl} (h : RlX fmtI r) : ∀ x ∈ ruleX fmtI r, x < 256 := by
  have h1 := atomX_b (nameT_b h.nm) fun t ht => tmX_b (h.w.ht t ht) (h.tm t ht)
  have h2 : ∀ x ∈ bodyX fmtI r.body, x < 256 := by
    have hb := h.bd
    generalize r.body = bs at hb
    cases bs with
    | nil => simp [bodyX]
    | cons b bs =>
      intro x
      simp only [bodyX, List.mem_append, List.mem_flatMap, List.mem_cons, List.not_mem_nil, or_false]
      rintro ((hx | hx | hx | hx) | hx | ⟨u, hu, hx⟩)
      · omega
      · omega
      · omega
      · omega
      · exact litX_b (hb b (by simp)) x hx
      · rcases hx with (hx | hx) | hx
        · omega
        · omega
        · exact litX_b (hb u (by simp [hu])) x hx
  intro x
  unfold ruleX
  simp only [List.mem_append, List.mem_cons, List.not_mem_nil, or_false]
  rintro ((hx | hx) | hx)
  · exact h1 x hx
  · exact h2 x hx
  · omega
theorem allX_b : ∀ {l : List Rl}, (∀ r ∈ l, RlX fmtI r) → ∀ x ∈ allX fmtI l, x < 256
  | [], _ => by simp [allX]
  | r :: l, h => by
    intro x
    simp only [allX, List.mem_append, List.mem_cons]
    rintro (hx | hx | hx)
    · exact ruleX_b (h r (by simp)) x hx
    · omega
    · exact allX_b (l := l) (fun y hy => h y (by simp [hy])) x hx
theorem addC (a b : List Nat) (h : a.length + b.length ≤ 100000000000000000) : ∃ c, c = a ++ b ∧ strS BinOp.add a b = some (.str c) := by
  refine ⟨_, rfl, ?_⟩
  simp only [strS]; rw [if_pos (by omega)]
theorem syntaxPrint_law (C : Codes tab) (F : Formats tab) (PI : Parses tab) (J : Joins tab) (E : ExtIdx tab) {s : List Nat} {aw : AW} (hb : ∀ x ∈ s, x < 256) : WF tab n_law8_SyntaxPrint [.str s] aw (fun v aw' => v = .bool true ∧ Frm (fun _ => False) aw aw') := by
  refine WF_of C.c_law8_SyntaxPrint rfl ?_
  refine WS_run 1000 (by simp only [go_sem, eRun_exit, simprocAttr, k_law8_SyntaxPrint, k_law8_SyntaxPrint_p10]; rfl) ?_
  refine WS_call (by simp only [go_sem, eRun_exit, simprocAttr]) (by simp only [go_sem, eRun_exit, simprocAttr]; rfl) ?_
  refine begun8_ok C F PI J E fun w0 g0 => ?_
  refine WS_run 1000 (by simp only [go_sem, eRun_exit, simprocAttr, k_law8_SyntaxPrint_p10]; rfl) ?_
  refine WS_call (by simp only [go_sem, eRun_exit, simprocAttr]) (by simp only [go_sem, eRun_exit, simprocAttr]; rfl) ?_
  refine lcut_ok C (n := 1500) ?_
  have hl : (s.take 1500).length ≤ 1500 := by rw [List.length_take]; omega
  have hbt : ∀ x ∈ s.take 1500, x < 256 := fun x hx => hb x (List.mem_of_mem_take hx)
  generalize s.take 1500 = t at hl hbt ⊢
  refine WS_run 1000 (by simp only [go_sem, eRun_exit, simprocAttr]; rfl) ?_
  refine WS_call (by simp only [go_sem, eRun_exit, simprocAttr]) (by simp only [go_sem, eRun_exit, simprocAttr]; rfl) ?_
  refine rprogram_ok C (by omega) hbt fun w1 rv T h1 h2 h3 => ?_
  obtain ⟨hG, h30⟩ := rProgram_G t
  obtain ⟨hd1, hd2⟩ := rProgram_bd t
  generalize (rProgram t).2 = e
  generalize (rProgram t).1 = rs at h1 hG h30 hd1 hd2
  by_cases he : e = 0
  case neg =>
    refine WS_run 1000 (by simp only [go_sem, eRun_exit, simprocAttr, he, k_law8_SyntaxPrint_p1]; rfl) ?_
    refine WS_ret ⟨_, by simp only [go_sem, eRun_exit, simprocAttr, k_law8_SyntaxPrint]; rfl, ?_⟩
    exact ⟨rfl, g0.tr h2⟩
  subst he
  have hP : ∀ r ∈ rs, RlP r := fun r hr => rlP_G (hG r hr)
  refine WS_run 1000 (by simp only [go_sem, eRun_exit, simprocAttr, k_law8_SyntaxPrint_p9]; rfl) ?_
  refine WS_loopJ (fun q f w => ∃ i, f.get 4 = some rv ∧ f.get 6 = some (.str (allX fmtI (rs.take i))) ∧ f.get 7 = some (.int .i64 (Int.ofNat i)) ∧ Frm (fun _ => False) w1 w ∧ i ≤ rs.length ∧ q = rs.length - i) (fun f w => f.get 4 = some rv ∧ f.get 6 = some (.str (allX fmtI rs)) ∧ Frm (fun _ => False) w1 w) ?_ ?_ rs.length
    ⟨0, (by simp only [go_sem, eRun_exit, simprocAttr] <;> rfl), (by simp only [go_sem, eRun_exit, simprocAttr] <;> rfl), (by simp only [go_sem, eRun_exit, simprocAttr] <;> rfl), Frm.refl _, Nat.zero_le _, rfl⟩
  · rintro q f w ⟨i, f4, f6, f7, g, hi, rfl⟩ ih out
    have hlv : lenV rv = some rs.length := by obtain ⟨xss, q1, _⟩ := h1; exact q1.lenV
    by_cases hlt : i < rs.length
    case neg =>
      obtain rfl : i = rs.length := by omega
      rw [List.take_length] at f6
      refine WS_runB 1000 (by simp only [go_sem, simprocAttr, k_law8_SyntaxPrint_p5, f4, f7, hlv, hlt]; rfl) ?_
      exact out _ _ _ ⟨(by simp only [go_sem, eRun_exit, simprocAttr, f4] <;> rfl), (by simp only [go_sem, eRun_exit, simprocAttr, f6] <;> rfl), g⟩ rfl
    obtain ⟨r, hr⟩ : ∃ r, rs[i]? = some r := ⟨_, List.getElem?_eq_getElem hlt⟩
    have htk : rs.take (i + 1) = rs.take i ++ [r] := by rw [List.take_add_one, hr]; rfl
    have hPr := hP r (List.mem_of_getElem? hr)
    have hal := allX_len (l := rs.take i) fun x hx => hP x (List.mem_of_mem_take hx)
    rw [List.length_take, Nat.min_eq_left hi] at hal
    have hsn := allX_snoc (rs.take i) r
    rw [← htk] at hsn
    have hrl := ruleS_len hPr
    have hwr : IntKind.wrap .i64 (Int.ofNat i + 1) = Int.ofNat (i + 1) := wrap_succ (by omega)
    have h1w := h1.frm (fun _ _ h => h.frm g fun _ _ h => h) g fun _ _ h => h
    obtain ⟨b, o, c, xs, rfl, la, hR⟩ := rls_at3 h1w hr
    generalize allX fmtI (rs.take i) = u at *
    refine WS_run 1000 (by simp only [go_sem, eRun_exit, simprocAttr, k_law8_SyntaxPrint_p5, k_law8_SyntaxPrint_p4, f4, f6, f7, hlv, hlt, la]; rfl) ?_
    refine WS_call (by simp only [go_sem, eRun_exit, simprocAttr]) (by simp only [go_sem, eRun_exit, simprocAttr]; rfl) ?_
    refine sprint_ok C F J hR hPr fun w2 g2 => ?_
    have h1w2 := h1w.frm (fun _ _ h => h.frm g2 fun _ _ h => h) g2 fun _ _ h => h
    obtain ⟨_, _, _, xs2, he2, la2, hR2⟩ := rls_at3 h1w2 hr
    cases he2
    refine WS_run 1000 (by simp only [go_sem, eRun_exit, simprocAttr, k_law8_SyntaxPrint_p3, f4, f6, f7, hlt, la2]; rfl) ?_
    refine WS_call (by simp only [go_sem, eRun_exit, simprocAttr]) (by simp only [go_sem, eRun_exit, simprocAttr]; rfl) ?_
    refine rruleS_ok C hR2 hPr fun w3 g3 => ?_
    obtain ⟨p, hp⟩ : ∃ p, p = ruleS r := ⟨_, rfl⟩
    rw [← hp] at hrl hsn ⊢
    have hne : strS BinOp.neq p p = some (.bool false) := by simp [strS, eqLd]
    obtain ⟨p1, hp1, e1⟩ := addC p [10] (by simp only [List.length_cons, List.length_nil]; omega)
    have hp1l : p1.length = p.length + 1 := by rw [hp1, List.length_append]; rfl
    obtain ⟨u1, hu1, e2⟩ := addC u p1 (by omega)
    refine WS_run 1000 (by simp only [go_sem, eRun_exit, simprocAttr, f6, f7, hne, e1, e2, hwr]; rfl) ?_
    refine ih _ _ _ (by omega) ⟨i + 1, (by simp only [go_sem, eRun_exit, simprocAttr, f4] <;> rfl), ?_, (by simp only [go_sem, eRun_exit, simprocAttr] <;> rfl), (g.tr g2).tr g3, by omega, rfl⟩
    rw [hsn, ← hp1, ← hu1]
    exact (by simp only [go_sem, eRun_exit, simprocAttr] <;> rfl)
  rintro f w ⟨f4, f6, g⟩
  have f0 := g0.tr (h2.tr g)
  by_cases hbig : 4000 < (allX fmtI rs).length
  · refine WS_run 1000 (by simp only [go_sem, eRun_exit, simprocAttr, f6, hbig, k_law8_SyntaxPrint_p6]; rfl) ?_
    refine WS_ret ⟨_, by simp only [go_sem, eRun_exit, simprocAttr, k_law8_SyntaxPrint]; rfl, ?_⟩
    exact ⟨rfl, f0⟩
  have hread := rProgram_allX fmt_ok hG h30 (by omega)
  have hbb : ∀ x ∈ allX fmtI rs, x < 256 := allX_b fun r hr => (hG r hr).1
  generalize allX fmtI rs = u at *
  refine WS_run 1000 (by simp only [go_sem, eRun_exit, simprocAttr, f6, hbig, k_law8_SyntaxPrint_p8]; rfl) ?_
  refine WS_call (by simp only [go_sem, eRun_exit, simprocAttr]) (by simp only [go_sem, eRun_exit, simprocAttr]; rfl) ?_
  refine sprogram_ok C PI E (by omega) hbb fun w3 v T' k1 k2 k3 => ?_
  rw [hread] at k1 ⊢
  have gw := (g.tr k2)
  have h1w := h1.frm (fun _ _ h => h.frm gw fun _ _ h => h) gw fun _ _ h => h
  refine WS_run 1000 (by simp only [go_sem, eRun_exit, simprocAttr, f4, k_law8_SyntaxPrint_p7]; rfl) ?_
  refine WS_call (by simp only [go_sem, eRun_exit, simprocAttr]) (by simp only [go_sem, eRun_exit, simprocAttr]; rfl) ?_
  refine eqRules_ok (l := rs) C k1 h1w (by omega) hd2 fun w4 g4 => ?_
  refine WS_run 1000 (by simp only [go_sem, eRun_exit, simprocAttr]; rfl) ?_
  refine WS_ret ⟨_, by simp only [go_sem, eRun_exit, simprocAttr, k_law8_SyntaxPrint]; rfl, ?_⟩
  exact ⟨rfl, (f0.tr k2).tr g4⟩
end Go.Proofs.YtegdcbdicpfbpaaGreatDoor
