/- A part of the proof: Ae35, W1, W2, W3, W4, W5, W6, W7, W8, Ae36, ZT3, ZT4. -/
import Derived.Test.YtgmnhlnegflbbaaGreatDoorZcE
import Derived.Sort.KeysCollected
import Derived.Test.YtgmnhlnegflbbaaGreatDoorRows
import Derived.Shelf.SlIter.Nil
import Derived.Shelf.SortM.Plain
import Derived.Shelf.SortM.SortNone
set_option linter.unusedVariables false
set_option linter.unusedSectionVars false
set_option linter.unusedSimpArgs false
open Go.RowKit
namespace Go.AE
variable [Globs]
/-- a block of the world's that no abstract one stands for. -/
theorem R.bind {y : AW} {w : World} {m : Map} {base n c tot : Nat} (hR : R y w m base) {x : Blk} (hn : n < y.next) (hm : m n = none) (hx : y.heap.get n = some x) (hl : x.lone = true) (hcl : c < w.heap.size) (hcb : base ≤ c) (hfr : ∀ b e, m b = some e → e.c ≠ c)
    (hb : BR y (m.set n ⟨c, 0, tot⟩) w n ⟨c, 0, tot⟩ x) : R y w (m.set n ⟨c, 0, tot⟩) base := by
  have hle : m.le (m.set n ⟨c, 0, tot⟩) := Map.le_set hm
  have hnf : ∀ {l : List V} {f : Nat}, y.heap.get n ≠ some (.cells l (.fam f)) := by
    intro l f h; rw [hx] at h; cases h; cases hl
  refine ⟨hR.glob.le hle, fun b e l f h hy => ?_, hR.size, fun b e h => ?_, fun b e h => ?_, fun b e z h hz => ?_, fun b e z b' e' z' h hz h' hz' h1 h2 hne hec => ?_, fun f F hF => ?_⟩
  · rcases Map.set_cases h with ⟨rfl, rfl⟩ | ⟨h1, h2⟩
    · exact absurd hy hnf
    · exact hR.famlt b e l f h2 hy
  · rcases Map.set_cases h with ⟨rfl, rfl⟩ | ⟨h1, h2⟩
    · exact ⟨hn, hcl⟩
    · exact hR.lt b e h2
  · rcases Map.set_cases h with ⟨rfl, rfl⟩ | ⟨h1, h2⟩
    · exact .inl hcb
    · exact hR.base b e h2
  · rcases Map.set_cases h with ⟨rfl, rfl⟩ | ⟨h1, h2⟩
    · rw [hx] at hz; cases hz; exact hb
    · exact BR.mono hle (fun _ _ _ h => h) rfl (hR.blk b e z h2 hz)
  · rcases Map.set_cases h with ⟨rfl, rfl⟩ | ⟨k1, k2⟩
    · rcases Map.set_cases h' with ⟨rfl, rfl⟩ | ⟨k3, k4⟩
      · exact absurd rfl hne
      · exact absurd hec.symm (hfr b' e' k4)
    · rcases Map.set_cases h' with ⟨rfl, rfl⟩ | ⟨k3, k4⟩
      · exact absurd hec (hfr b e k2)
      · exact hR.apart b e z b' e' z' k2 hz k4 hz' h1 h2 hne hec
  · obtain ⟨h1, h2⟩ := hR.fam f F hF
    refine ⟨h1, fun b e l e' l' h hy ha h' hy' hec => ?_⟩
    rcases Map.set_cases h with ⟨rfl, rfl⟩ | ⟨k1, k2⟩
    · exact absurd hy hnf
    · rcases Map.set_cases h' with ⟨q, rfl⟩ | ⟨k3, k4⟩
      · rw [q] at hy'; exact absurd hy' hnf
      · exact h2 b e l e' l' k2 hy ha k4 hy' hec
/-- a row of cells that a call made. -/
theorem R.take {aw : AW} {w w' : World} {m : Map} {base : Nat} (hR : R aw w m base) (hb : Below w.heap.size w w') {c lo hi : Nat} {cur : Array Value} {t : TypeId} {l : List V} (hc : w.heap.size ≤ c) (hx : w'.heap[c]? = some (.cells cur t (lo, hi))) (hlh : lo = hi) (hl : CR m l 0 cur) (hsz : l.length ≤ cur.size) :
    R (aw.fresh l) w' (m.set aw.next ⟨c, 0, cur.size⟩) base ∧ Goes aw (aw.fresh l) w w' m (m.set aw.next ⟨c, 0, cur.size⟩) := by
  obtain ⟨h1, h2⟩ := hR.below hb
  have hnone : m aw.next = none := next_none hR
  have hle : m.le (m.set aw.next ⟨c, 0, cur.size⟩) := Map.le_set hnone
  have hcl : c < w'.heap.size := (Array.getElem?_eq_some_iff.1 hx).1
  refine ⟨(h1.pad (.cells l .own)).bind (Nat.lt_succ_self _) hnone T.get_put_same rfl hcl (Nat.le_trans hR.size hc) (fun b e he hec => ?_) (fun _ => ⟨cur, t, lo, hi, hx, rfl, by simpa using hsz, .inr (.inl ⟨hlh, fun _ => rfl⟩), hl.mono hle⟩), ?_⟩
  · have := (hR.lt b e he).2; omega
  · have h3 := h2.pad (.cells l .own)
    refine ⟨hle, fun b e hbe => ?_, h3.next, h3.size, h3.os, h3.tape, h3.output, h3.ro, h3.roOld, h3.frame, h3.none, h3.unm⟩
    rcases Map.set_cases hbe with ⟨rfl, rfl⟩ | ⟨_, h4⟩
    · exact .inr ⟨Nat.le_refl _, .inl hc⟩
    · exact .inl h4
end Go.AE

set_option linter.unusedVariables false
set_option linter.unusedSectionVars false
set_option linter.unusedSimpArgs false
namespace Go.AE
variable [Globs]

section
variable {tab : Tab}
def WX (tab : Tab) (c : ACode) (fr : Fr) (aw : AW) (Q : AExit → Fr → AW → Prop) : Prop := ∃ e fr' aw', Exec tab c fr aw e fr' aw' ∧ Q e fr' aw'
def WF (tab : Tab) (f : Nat) (args : List V) (aw : AW) (K : V → AW → Prop) : Prop := ∃ v aw', CallR tab f args aw v aw' ∧ K v aw'
theorem WX.mono {c : ACode} {fr : Fr} {aw : AW} {Q Q' : AExit → Fr → AW → Prop} (h : WX tab c fr aw Q) (hq : ∀ e f a, Q e f a → Q' e f a) : WX tab c fr aw Q' := by
  obtain ⟨e, f, a, h1, h2⟩ := h; exact ⟨e, f, a, h1, hq _ _ _ h2⟩
theorem WF.mono {f : Nat} {args : List V} {aw : AW} {K K' : V → AW → Prop} (h : WF tab f args aw K) (hk : ∀ v a, K v a → K' v a) : WF tab f args aw K' := by
  obtain ⟨v, a, h1, h2⟩ := h; exact ⟨v, a, h1, hk _ _ h2⟩

/-- goes on where the code ended by itself. -/
def onw (Q : AExit → Fr → AW → Prop) (N : Fr → AW → Prop) : AExit → Fr → AW → Prop
  | .normal, f, a => N f a
  | e, f, a => Q e f a
def inB (id : Nat) (Q : AExit → Fr → AW → Prop) : AExit → Fr → AW → Prop
  | .exit id', f, a => if id' = id then Q .normal f a else Q (.exit id') f a
  | e, f, a => Q e f a
@[simp] theorem onw_normal {Q : AExit → Fr → AW → Prop} {N : Fr → AW → Prop} {f : Fr} {a : AW} : onw Q N .normal f a = N f a := rfl
@[simp] theorem onw_exit {Q : AExit → Fr → AW → Prop} {N : Fr → AW → Prop} {f : Fr} {a : AW} {id : Nat} : onw Q N (.exit id) f a = Q (.exit id) f a := rfl
@[simp] theorem onw_ret {Q : AExit → Fr → AW → Prop} {N : Fr → AW → Prop} {f : Fr} {a : AW} : onw Q N .ret f a = Q .ret f a := rfl
@[simp] theorem inB_normal {Q : AExit → Fr → AW → Prop} {f : Fr} {a : AW} {id : Nat} : inB id Q .normal f a = Q .normal f a := rfl
@[simp] theorem inB_exit {Q : AExit → Fr → AW → Prop} {f : Fr} {a : AW} {id id' : Nat} : inB id Q (.exit id') f a = if id' = id then Q .normal f a else Q (.exit id') f a := rfl
@[simp] theorem inB_ret {Q : AExit → Fr → AW → Prop} {f : Fr} {a : AW} {id : Nat} : inB id Q .ret f a = Q .ret f a := rfl

/-- a call: of a function, or of what is told of one. -/
def WC (tab : Tab) (f : Nat) (args : List V) (aw : AW) (K : V → AW → Prop) : Prop := WF tab f args aw K ∨ ∃ v aw', tab.ext f args aw v aw' ∧ K v aw'
theorem WC.of {f : Nat} {args : List V} {aw : AW} {K : V → AW → Prop} (h : WF tab f args aw K) : WC tab f args aw K := .inl h
end
end Go.AE

set_option linter.unusedVariables false
set_option linter.unusedSectionVars false
set_option linter.unusedSimpArgs false
namespace Go.AE
variable [Globs]
inductive SI where
  | code (c : ACode)
  | ops (l : List AOper)
  | endB (id : Nat)
section
variable {tab : Tab}
def popTo (id : Nat) : List SI → Option (List SI)
  | [] => none
  | .endB id' :: s => if id = id' then some s else popTo id s
  | .code _ :: s => popTo id s
  | .ops _ :: s => popTo id s
inductive RS where
  | on (s : List SI) (fr : Fr) (aw : AW)
  | none
/-- as far as nothing is open: the stack, the frame, the memory behind it. -/
def eRun0 : Nat → List SI → Fr → AW → RS
  | 0, s, fr, aw => RS.on s fr aw
  | n + 1, [], fr, aw => RS.on [] fr aw
  | n + 1, .endB _ :: s, fr, aw => eRun0 n s fr aw
  | n + 1, .ops [] :: s, fr, aw => eRun0 n s fr aw
  | n + 1, .ops (o :: l) :: s, fr, aw => match wanted fr o.guard with
    | some true => match aop o.op fr aw with
      | some (.val v, aw1) => eRun0 n (.ops l :: s) (putO fr o.dst v) aw1
      | some (.skip, aw1) => eRun0 n (.ops l :: s) (putO fr o.dst .undef) aw1
      | _ => RS.on (.ops (o :: l) :: s) fr aw
    | some false => eRun0 n (.ops l :: s) (putO fr o.dst .undef) aw
    | none => RS.on (.ops (o :: l) :: s) fr aw
  | n + 1, .code c :: s, fr, aw => match c with
    | .skip => eRun0 n s fr aw
    | .seq a b => eRun0 n (.code a :: .code b :: s) fr aw
    | .block id b => eRun0 n (.code b :: .endB id :: s) fr aw
    | .scope b => eRun0 n (.code b :: s) fr aw
    | .region l => eRun0 n (.ops l :: s) fr aw
    | .exit id => match popTo id s with
      | some s' => eRun0 n s' fr aw
      | none => RS.on (.code (.exit id) :: s) fr aw
    | .cond c a b => match c.ev fr with
      | some (.bool true) => eRun0 n (.code a :: s) fr aw
      | some (.bool false) => eRun0 n (.code b :: s) fr aw
      | _ => RS.on (.code (.cond c a b) :: s) fr aw
    | .loop b => RS.on (.code (.loop b) :: s) fr aw
    | .drawn l => RS.on (.code (.drawn l) :: s) fr aw
    | .ret => RS.on [.code .ret] fr aw
/-- the same, not to be unfolded. -/
theorem eRun_ex : ∃ f : Nat → List SI → Fr → AW → RS, f = eRun0 := ⟨_, rfl⟩
@[irreducible] noncomputable def eRun : Nat → List SI → Fr → AW → RS := Classical.choose eRun_ex
theorem eRun_eq : eRun = eRun0 := by unfold eRun; exact Classical.choose_spec eRun_ex
theorem eRun_nil {n : Nat} {fr : Fr} {aw : AW} : eRun (n + 1) [] fr aw = RS.on [] fr aw := by rw [eRun_eq]; rfl
theorem eRun_endB {n id : Nat} {s : List SI} {fr : Fr} {aw : AW} : eRun (n + 1) (.endB id :: s) fr aw = eRun n s fr aw := by rw [eRun_eq]; rfl
theorem eRun_opsNil {n : Nat} {s : List SI} {fr : Fr} {aw : AW} : eRun (n + 1) (.ops [] :: s) fr aw = eRun n s fr aw := by rw [eRun_eq]; rfl
theorem eRun_ops {n : Nat} {o : AOper} {l : List AOper} {s : List SI} {fr : Fr} {aw : AW} : eRun (n + 1) (.ops (o :: l) :: s) fr aw = match wanted fr o.guard with
    | some true => match aop o.op fr aw with
      | some (.val v, aw1) => eRun n (.ops l :: s) (putO fr o.dst v) aw1
      | some (.skip, aw1) => eRun n (.ops l :: s) (putO fr o.dst .undef) aw1
      | _ => RS.on (.ops (o :: l) :: s) fr aw
    | some false => eRun n (.ops l :: s) (putO fr o.dst .undef) aw
    | none => RS.on (.ops (o :: l) :: s) fr aw := by rw [eRun_eq]; rfl
theorem eRun_skip {n : Nat} {s : List SI} {fr : Fr} {aw : AW} : eRun (n + 1) (.code .skip :: s) fr aw = eRun n s fr aw := by rw [eRun_eq]; rfl
theorem eRun_seq {n : Nat} {a b : ACode} {s : List SI} {fr : Fr} {aw : AW} : eRun (n + 1) (.code (.seq a b) :: s) fr aw = eRun n (.code a :: .code b :: s) fr aw := by rw [eRun_eq]; rfl
theorem eRun_block {n id : Nat} {b : ACode} {s : List SI} {fr : Fr} {aw : AW} : eRun (n + 1) (.code (.block id b) :: s) fr aw = eRun n (.code b :: .endB id :: s) fr aw := by rw [eRun_eq]; rfl
theorem eRun_scope {n : Nat} {b : ACode} {s : List SI} {fr : Fr} {aw : AW} : eRun (n + 1) (.code (.scope b) :: s) fr aw = eRun n (.code b :: s) fr aw := by rw [eRun_eq]; rfl
theorem eRun_region {n : Nat} {l : List AOper} {s : List SI} {fr : Fr} {aw : AW} : eRun (n + 1) (.code (.region l) :: s) fr aw = eRun n (.ops l :: s) fr aw := by rw [eRun_eq]; rfl
theorem eRun_cond {n : Nat} {c : Opd} {a b : ACode} {s : List SI} {fr : Fr} {aw : AW} : eRun (n + 1) (.code (.cond c a b) :: s) fr aw = match c.ev fr with
      | some (.bool true) => eRun n (.code a :: s) fr aw
      | some (.bool false) => eRun n (.code b :: s) fr aw
      | _ => RS.on (.code (.cond c a b) :: s) fr aw := by rw [eRun_eq]; rfl
theorem eRun_loop {n : Nat} {b : ACode} {s : List SI} {fr : Fr} {aw : AW} : eRun (n + 1) (.code (.loop b) :: s) fr aw = RS.on (.code (.loop b) :: s) fr aw := by rw [eRun_eq]; rfl
theorem eRun_drawn {n : Nat} {l : List DOper} {s : List SI} {fr : Fr} {aw : AW} : eRun (n + 1) (.code (.drawn l) :: s) fr aw = RS.on (.code (.drawn l) :: s) fr aw := by rw [eRun_eq]; rfl
theorem eRun_ret {n : Nat} {s : List SI} {fr : Fr} {aw : AW} : eRun (n + 1) (.code .ret :: s) fr aw = RS.on [.code .ret] fr aw := by rw [eRun_eq]; rfl
theorem T.get_putk {α : Type} {t : T α} {k j : Nat} {x : α} : (t.put k x).get j = if j = k then some x else t.get j := by
  by_cases hj : j = k
  · subst hj; rw [if_pos rfl, get_put_same]
  · rw [if_neg hj, get_put_ne hj]
theorem initFr_nil {k : Nat} : initFr [] k = .e := rfl
theorem initFr_cons {v : V} {l : List V} {k : Nat} : initFr (v :: l) k = (initFr l (k + 1)).put k v := rfl
theorem putO_some {fr : Fr} {d : Nat} {v : V} : putO fr (some d) v = fr.put d v := rfl
theorem putO_none {fr : Fr} {v : V} : putO fr none v = fr := rfl
theorem wanted_none {fr : Fr} : wanted fr none = some true := rfl
theorem ev_tmp {fr : Fr} {t : Nat} : (Opd.tmp t).ev fr = fr.get t := rfl
theorem ev_const {fr : Fr} {v : V} : (Opd.const v).ev fr = some v := rfl
theorem resOne_one {v : V} : resOne [v] = v := rfl
theorem resOne_two {v u : V} : resOne [v, u] = .tuple [v, u] := rfl
theorem natBeq {a b : Nat} : Nat.beq a b = decide (a = b) := by
  cases h : Nat.beq a b with
  | true => simp [Nat.eq_of_beq_eq_true h]
  | false => simp [Nat.ne_of_beq_eq_false h]
theorem natBle {a b : Nat} : Nat.ble a b = decide (a ≤ b) := by
  cases h : Nat.ble a b with
  | true => simp [Nat.le_of_ble_eq_true h]
  | false => simp only [Bool.false_eq, decide_eq_false_iff_not]; exact Nat.not_le_of_not_ble_eq_true (by simp [h])
theorem natBlt {a b : Nat} : Nat.blt a b = decide (a < b) := by
  unfold Nat.blt; rw [natBle]; rfl
theorem gt_nn {a b : Nat} : decide (Int.ofNat a > Int.ofNat b) = decide (b < a) := by simp
theorem ge_nn {a b : Nat} : decide (Int.ofNat a ≥ Int.ofNat b) = decide (b ≤ a) := by simp
theorem le_nn {a b : Nat} : decide (Int.ofNat a ≤ Int.ofNat b) = decide (a ≤ b) := by simp
theorem lt_nn {a b : Nat} : decide (Int.ofNat a < Int.ofNat b) = decide (a < b) := by simp
theorem eq_nn {a b : Nat} : (Int.ofNat a == Int.ofNat b) = decide (a = b) := by
  by_cases h : a = b
  · simp [h]
  · simp only [h, decide_false, beq_eq_false_iff_ne, ne_eq]; intro e; exact h (Int.ofNat.inj e)
theorem ne_nn {a b : Nat} : (Int.ofNat a != Int.ofNat b) = !decide (a = b) := by
  simp only [bne, eq_nn]
theorem gt_nl {a b : Nat} : decide (Int.ofNat a > (no_index (@OfNat.ofNat Int b instOfNat))) = decide (@OfNat.ofNat Nat b (instOfNatNat b) < a) := gt_nn
theorem ge_nl {a b : Nat} : decide (Int.ofNat a ≥ (no_index (@OfNat.ofNat Int b instOfNat))) = decide (@OfNat.ofNat Nat b (instOfNatNat b) ≤ a) := ge_nn
theorem le_nl {a b : Nat} : decide (Int.ofNat a ≤ (no_index (@OfNat.ofNat Int b instOfNat))) = decide (a ≤ @OfNat.ofNat Nat b (instOfNatNat b)) := le_nn
theorem lt_nl {a b : Nat} : decide (Int.ofNat a < (no_index (@OfNat.ofNat Int b instOfNat))) = decide (a < @OfNat.ofNat Nat b (instOfNatNat b)) := lt_nn
theorem eq_nl {a b : Nat} : (Int.ofNat a == (no_index (@OfNat.ofNat Int b instOfNat))) = decide (a = @OfNat.ofNat Nat b (instOfNatNat b)) := eq_nn
theorem ne_nl {a b : Nat} : (Int.ofNat a != (no_index (@OfNat.ofNat Int b instOfNat))) = !decide (a = @OfNat.ofNat Nat b (instOfNatNat b)) := ne_nn
theorem gt_ln {a b : Nat} : decide ((no_index (@OfNat.ofNat Int b instOfNat)) > Int.ofNat a) = decide (a < @OfNat.ofNat Nat b (instOfNatNat b)) := gt_nn
theorem ge_ln {a b : Nat} : decide ((no_index (@OfNat.ofNat Int b instOfNat)) ≥ Int.ofNat a) = decide (a ≤ @OfNat.ofNat Nat b (instOfNatNat b)) := ge_nn
theorem lt_ln {a b : Nat} : decide ((no_index (@OfNat.ofNat Int b instOfNat)) < Int.ofNat a) = decide (@OfNat.ofNat Nat b (instOfNatNat b) < a) := lt_nn
theorem le_ln {a b : Nat} : decide ((no_index (@OfNat.ofNat Int b instOfNat)) ≤ Int.ofNat a) = decide (@OfNat.ofNat Nat b (instOfNatNat b) ≤ a) := le_nn
theorem take_drop_all {α : Type} {k : Nat} {s : List α} : (s.drop k).take (s.length - k) = s.drop k := List.take_of_length_le (by simp)
theorem take_drop_mid {α : Type} {k n : Nat} {s : List α} : (s.drop k).take (k + n - k) = (s.drop k).take n := by rw [Nat.add_sub_cancel_left]
/-! what a call leaves of what was there: all below a number. -/
structure Ext (N : Nat) (w w' : AW) : Prop where
  le : N ≤ w.next
  next : w.next ≤ w'.next
  heap : ∀ b, b < N → w'.heap.get b = w.heap.get b
  fams : ∀ b, b < N → w'.fams.get b = w.fams.get b
theorem Ext.refl (w : AW) : Ext w.next w w := ⟨Nat.le_refl _, Nat.le_refl _, fun _ _ => rfl, fun _ _ => rfl⟩
theorem Ext.trans {N : Nat} {a b c : AW} (h : Ext N a b) (h' : Ext N b c) : Ext N a c :=
  ⟨h.le, Nat.le_trans h.next h'.next, fun k hk => (h'.heap k hk).trans (h.heap k hk), fun k hk => (h'.fams k hk).trans (h.fams k hk)⟩
theorem Ext.mono {N M : Nat} {a b : AW} (h : Ext N a b) (hm : M ≤ N) : Ext M a b :=
  ⟨Nat.le_trans hm h.le, h.next, fun k hk => h.heap k (Nat.lt_of_lt_of_le hk hm), fun k hk => h.fams k (Nat.lt_of_lt_of_le hk hm)⟩
theorem Ext.new {N : Nat} {w : AW} (h : N ≤ w.next) (x : Blk) : Ext N w (w.new x) :=
  ⟨h, Nat.le_succ _, fun b hb => T.get_put_ne (by omega), fun _ _ => rfl⟩
/-- a slice that one appends to, its cells; all of it from N on. -/
inductive Own (N : Nat) (w : AW) : V → Nat → Nat → List V → Prop
  | nil {esz : Nat} : Own N w .nilslice esz 0 []
  | blk {b n esz : Nat} {cs : List V} {sh : Share} (hN : N ≤ b) (hb : b < w.next) (hx : w.heap.get b = some (.cells cs sh)) (hl : cs.length = n * esz) (he : 0 < esz) (hn : 0 < n)
      (hs : sh = .own ∨ sh = .lax ∨ ∃ f F, sh = .fam f ∧ N ≤ f ∧ f < w.next ∧ w.fams.get f = some F ∧ F.last = b ∧ F.floor ≤ w.next ∧ w.alive b sh = true) : Own N w (.slice b 0 n (.upTo esz)) esz n cs
theorem Own.ext {N : Nat} {w w' : AW} {v : V} {esz n : Nat} {cs : List V} (h : Own N w v esz n cs) {M : Nat} (hM : w.next ≤ M) (he : Ext M w w') : Own N w' v esz n cs := by
  cases h with
  | nil => exact .nil
  | blk hN hb hx hl he' hn hs =>
    refine .blk hN (Nat.lt_of_lt_of_le hb he.next) ((he.heap _ (by omega)).trans hx) hl he' hn ?_
    rcases hs with rfl | rfl | ⟨f, F, rfl, h1, h2, h3, h4, h6, h5⟩
    · exact .inl rfl
    · exact .inr (.inl rfl)
    · refine .inr (.inr ⟨f, F, rfl, h1, Nat.lt_of_lt_of_le h2 he.next, (he.fams f (by omega)).trans h3, h4, Nat.le_trans h6 he.next, ?_⟩)
      simp only [AW.alive, h3, (he.fams f (by omega)).trans h3] at h5 ⊢
      exact h5
theorem takeN_all : ∀ (l : List V) (n : Nat), l.length = n → takeN n l = some l
  | [], n, h => by cases h; rfl
  | x :: l, n, h => by
    cases n with
    | zero => cases h
    | succ n => simp only [takeN, takeN_all l n (by simpa using h)]
theorem takeN_some : ∀ (n : Nat) (l : List V), n ≤ l.length → takeN n l = some (l.take n)
  | 0, l, h => by simp [takeN]
  | n + 1, [], h => by simp at h
  | n + 1, x :: l, h => by simp only [takeN, takeN_some n l (by simpa using h), List.take_succ_cons]
theorem Own.alive {N : Nat} {w : AW} {b n esz : Nat} {cs : List V} {sh : Share} (hs : sh = .own ∨ sh = .lax ∨ ∃ f F, sh = .fam f ∧ N ≤ f ∧ f < w.next ∧ w.fams.get f = some F ∧ F.last = b ∧ F.floor ≤ w.next ∧ w.alive b sh = true) : w.alive b sh = true := by
  rcases hs with rfl | rfl | ⟨f, F, rfl, h1, h2, h3, h4, h6, h5⟩
  · rfl
  · rfl
  · exact h5
theorem Own.len {N : Nat} {w : AW} {v : V} {esz n : Nat} {cs : List V} (h : Own N w v esz n cs) : cs.length = n * esz := by
  cases h with
  | nil => simp
  | blk hN hb hx hl he' hn hs => exact hl
/-- a cell of it. -/
theorem Own.load {N : Nat} {w : AW} {b n esz : Nat} {c : Cap} {cs : List V} (h : Own N w (.slice b 0 n c) esz n cs) {o k : Nat} (hk : o + k ≤ cs.length) : w.load b o k = some ((cs.drop o).take k) := by
  cases h with
  | blk hN hb hx hl he' hn hs =>
    simp only [AW.load, hx, Own.alive (n := n) (esz := esz) (cs := cs) hs]
    exact takeN_some _ _ (by simp; omega)
theorem Own.append {N : Nat} {w : AW} {v : V} {esz n k bytes : Nat} {cs news : List V} (h : Own N w v esz n cs) (hNw : N ≤ w.next) (he : 0 < esz) (hk : 0 < k) (hl : news.length = k * esz) (h1 : allOne news = true) (hb : (n + k) * bytes ≤ 70368744177664) (hb' : n + k ≤ 70368744177664) :
    ∃ v' w', w.appendV esz bytes v k news = some (v', w') ∧ Own N w' v' esz (n + k) (cs ++ news) ∧ Ext N w w' := by
  obtain ⟨k, rfl⟩ : ∃ m, k = m + 1 := ⟨k - 1, by omega⟩
  cases h with
  | nil =>
    refine ⟨.slice w.next 0 (k + 1) (.upTo esz), w.fresh news, ?_, ?_, Ext.new hNw _⟩
    · simp only [AW.appendV]; rw [if_pos ⟨by simpa using hb, by omega⟩]
    · rw [Nat.zero_add]
      exact .blk hNw (Nat.lt_succ_self _) T.get_put_same (by simpa using hl) he (by omega) (.inl rfl)
  | @blk b _ _ _ sh hN hbw hx hlen he' hn hs =>
    have hbeq : Nat.beq (0 + n * esz) cs.length = true := by rw [Nat.zero_add, hlen, Nat.beq_refl]
    have hin : esz = esz ∧ (n + (k + 1)) * bytes ≤ 70368744177664 ∧ n + (k + 1) ≤ 70368744177664 ∧ allOne news = true ∧ 0 < esz := ⟨rfl, hb, hb', h1, he⟩
    -- from a family's block
    have fam : ∀ (u : AW) (f : Nat) (F : Fam), u.heap.get b = some (.cells cs (.fam f)) → N ≤ f → f < u.next → b < u.next → N ≤ u.next → u.fams.get f = some F → F.last = b → F.floor ≤ u.next → u.alive b (.fam f) = true →
        ∃ v' w', u.appendFam esz b 0 n (k + 1) news = some (v', w') ∧ Own N w' v' esz (n + (k + 1)) (cs ++ news) ∧ Ext N u w' := by
      intro u f F hx hNf hfu hbu hNu hF hlast hfl hal
      refine ⟨.slice u.next 0 (n + (k + 1)) (.upTo esz), u.grow b f F (cs.drop 0 ++ news), ?_, ?_, ?_⟩
      · simp only [AW.appendFam, hx, hal, hF, hbeq]
      · have hg : (u.grow b f F (cs.drop 0 ++ news)).fams.get f = some ⟨F.keep, F.floor, u.next⟩ := by
          simp only [AW.grow, T.get_putk, if_true, hlast, Nat.beq_refl]
        refine .blk hNu (Nat.lt_succ_self _) (sh := .fam f) ?_ ?_ he (by omega) (.inr (.inr ⟨f, ⟨F.keep, F.floor, u.next⟩, rfl, hNf, Nat.lt_succ_of_lt hfu, hg, rfl, Nat.le_succ_of_le hfl, ?_⟩))
        · simp only [AW.grow, T.get_putk, if_true, List.drop_zero]
        · rw [List.length_append, hlen, hl, Nat.add_mul n]
        · simp only [AW.alive, hg, Bool.or_eq_true]
          exact .inr (Nat.ble_eq_true_of_le hfl)
      · refine ⟨hNu, Nat.le_succ _, fun c hc => ?_, fun c hc => ?_⟩
        · exact T.get_put_ne (by omega)
        · exact T.get_put_ne (by omega)
    have fnd : sh = .own ∨ sh = .lax → ∃ v' w', (w.found b cs).appendFam esz b 0 n (k + 1) news = some (v', w') ∧ Own N w' v' esz (n + (k + 1)) (cs ++ news) ∧ Ext N w w' := by
      intro _
      obtain ⟨v', w', q1, q2, q3⟩ := fam (w.found b cs) w.next ⟨b, w.next + 1, b⟩ T.get_put_same hNw (Nat.lt_succ_self _) (Nat.lt_succ_of_lt hbw) (Nat.le_succ_of_le hNw) T.get_put_same rfl (Nat.le_refl _)
        (by simp only [AW.alive, AW.found, T.get_putk, if_true, Nat.beq_refl, Bool.true_or])
      refine ⟨v', w', q1, q2, Ext.trans ⟨hNw, Nat.le_succ _, fun c hc => ?_, fun c hc => ?_⟩ q3⟩
      · exact T.get_put_ne (by omega)
      · exact T.get_put_ne (by omega)
    have happ : w.appendV esz bytes (.slice b 0 n (.upTo esz)) (k + 1) news = w.appendUp esz b 0 n (k + 1) news := if_pos hin
    rw [happ]
    simp only [AW.appendUp, hx, hbeq]
    rcases hs with rfl | rfl | ⟨f, F, rfl, g1, g2, g3, g4, g6, g5⟩
    · exact fnd (.inl rfl)
    · exact fnd (.inr rfl)
    · exact fam w f F hx g1 g2 hbw hNw g3 g4 g6 g5
/-- a region whose order is drawn, of quiet operations alone. -/
def dRun : List DOper → Fr → AW → Option Fr
  | [], fr, _ => some fr
  | d :: l, fr, aw => match wanted (hideL fr d.hide) d.op.guard with
    | some true => match aop d.op.op (hideL fr d.hide) aw with
      | some (.val v, _) => dRun l (putO fr d.op.dst v) aw
      | _ => none
    | some false => dRun l (putO fr d.op.dst .undef) aw
    | none => none
theorem Pass.len {l : List DOper} {fr : Fr} {aw : AW} {st : List Stp} {fr' : Fr} {aw' : AW} : Pass tab l fr aw st fr' aw' → st.length = l.length := by
  induction l generalizing fr aw st with
  | nil => intro h; cases h; rfl
  | cons d l ih => intro h; cases h; rename_i h1 h2; simp [ih h2]
theorem idx_lit {k : IntKind} {n : Nat} : idx (.int k (no_index (@OfNat.ofNat Int n instOfNat))) = some (@OfNat.ofNat Nat n (instOfNatNat n)) := rfl
theorem idx_nat {k : IntKind} {n : Nat} : idx (.int k (Int.ofNat n)) = some n := rfl
/-- appended: one thing that was just built. -/
theorem Own.push {N : Nat} {w : AW} {v : V} {esz n bytes : Nat} {cs news : List V} (h : Own N w v esz n cs) (hNw : N ≤ w.next) (he : 0 < esz) (hl : news.length = esz) (h1 : allOne news = true) (hb : (n + 1) * bytes ≤ 70368744177664) (hb' : n + 1 ≤ 70368744177664) :
    ∃ v' w', (w.fresh news).appendV esz bytes v 1 news = some (v', w') ∧ Own N w' v' esz (n + 1) (cs ++ news) ∧ Ext N w w' := by
  have hx : Ext w.next w (w.fresh news) := Ext.new (Nat.le_refl _) _
  obtain ⟨v', w', h2, h3, h4⟩ := (h.ext (Nat.le_refl _) hx).append (news := news) (bytes := bytes) (k := 1) (Nat.le_trans hNw hx.next) he (by omega) (by omega) h1 hb hb'
  exact ⟨v', w', h2, h3, (hx.mono hNw).trans h4⟩
theorem drop_flat {α : Type} {enc : α → List V} {sz : Nat} (h : ∀ x, (enc x).length = sz) : ∀ (l : List α) (i : Nat), (l.flatMap enc).drop (i * sz) = (l.drop i).flatMap enc
  | [], i => by simp
  | x :: l, 0 => by simp
  | x :: l, i + 1 => by
    have e : (i + 1) * sz = sz + i * sz := by rw [Nat.add_mul, Nat.one_mul, Nat.add_comm]
    rw [List.flatMap_cons, e, ← List.drop_drop, List.drop_append_of_le_length (by rw [h x]; exact Nat.le_refl _)]
    have : List.drop sz (enc x) = [] := List.drop_eq_nil_of_le (by rw [h x]; exact Nat.le_refl _)
    rw [this, List.nil_append, drop_flat h l i, List.drop_succ_cons]
theorem flat_len {α : Type} {enc : α → List V} {sz : Nat} (h : ∀ x, (enc x).length = sz) : ∀ (l : List α), (l.flatMap enc).length = l.length * sz
  | [] => by simp
  | x :: l => by rw [List.flatMap_cons, List.length_append, h x, flat_len h l, List.length_cons, Nat.add_mul, Nat.one_mul, Nat.add_comm]
/-- a part of an element. -/
theorem flat_part {α : Type} {enc : α → List V} {sz : Nat} (h : ∀ x, (enc x).length = sz) {l : List α} {i j k : Nat} {x : α} (hx : l[i]? = some x) (hj : j + k ≤ sz) : (((l.flatMap enc).drop (0 + i * sz + j)).take k) = ((enc x).drop j).take k := by
  have hi : i < l.length := (List.getElem?_eq_some_iff.1 hx).1
  have hd : l.drop i = x :: l.drop (i + 1) := by
    rw [List.drop_eq_getElem_cons hi]; rw [List.getElem?_eq_getElem hi] at hx; rw [Option.some.inj hx]
  rw [Nat.zero_add, ← List.drop_drop, drop_flat h, hd, List.flatMap_cons, List.drop_append_of_le_length (by rw [h x]; omega), List.take_append_of_le_length (by rw [List.length_drop, h x]; omega)]
theorem Own.part {α : Type} {enc : α → List V} {N : Nat} {w : AW} {b n sz : Nat} {c : Cap} {l : List α} (h : ∀ x, (enc x).length = sz) (ho : Own N w (.slice b 0 n c) sz n (l.flatMap enc)) {i j k : Nat} {x : α} (hx : l[i]? = some x) (hj : j + k ≤ sz) :
    w.load b (0 + i * sz + j) k = some (((enc x).drop j).take k) := by
  have hi : i < l.length := (List.getElem?_eq_some_iff.1 hx).1
  rw [ho.load ?_, flat_part h hx hj]
  rw [flat_len h]
  have : i * sz + sz ≤ l.length * sz := by
    have : (i + 1) * sz ≤ l.length * sz := Nat.mul_le_mul_right _ hi
    rwa [Nat.add_mul, Nat.one_mul] at this
  omega
theorem Own.inv {N : Nat} {w : AW} {v : V} {esz n : Nat} {cs : List V} (h : Own N w v esz n cs) : (v = .nilslice ∧ n = 0 ∧ cs = []) ∨ ∃ b, v = .slice b 0 n (.upTo esz) ∧ 0 < n := by
  cases h with
  | nil => exact .inl ⟨rfl, rfl, rfl⟩
  | blk hN hb hx hl he hn hs => exact .inr ⟨_, rfl, hn⟩
end
end Go.AE

set_option linter.unusedSectionVars false
namespace Go.AE
variable [Globs]
theorem lenV_nil : lenV .nilslice = some 0 := rfl
theorem lenV_slice {b o n : Nat} {c : Cap} : lenV (.slice b o n c) = some n := rfl
attribute [go_sem] lenV_nil lenV_slice eRun_nil eRun_endB eRun_opsNil eRun_ops eRun_skip eRun_seq eRun_block eRun_scope eRun_region eRun_cond eRun_loop eRun_drawn eRun_ret dRun hideL T.get_delk evOpt Option.getD_none Option.getD_some Nat.le_refl and_self true_and and_true take_drop_all take_drop_mid gt_nn ge_nn le_nn lt_nn eq_nn ne_nn gt_nl ge_nl le_nl lt_nl eq_nl ne_nl gt_ln ge_ln le_ln lt_ln Bool.true_and Bool.false_and popTo wanted_none wanted aop ev_tmp ev_const evs initFr_cons initFr_nil putO_some putO_none AE.valOf T.get_putk T.get_e idx_lit idx_nat List.getElem?_cons_zero List.getElem?_cons_succ aBin binI aUn beq_self_eq_true Bool.true_beq Bool.false_beq Bool.not_true Bool.not_false List.append_nil List.nil_append List.cons_append natBeq natBle natBlt decide_true decide_false resV resOne_one resOne_two
end Go.AE

set_option linter.unusedVariables false
set_option linter.unusedSectionVars false
set_option linter.unusedSimpArgs false
namespace Go.AE
variable [Globs]
/-- all of what was there is as it was, but what is in S. -/
structure Frm (S : Nat → Prop) (w w' : AW) : Prop where
  next : w.next ≤ w'.next
  heap : ∀ b, b < w.next → ¬ S b → w'.heap.get b = w.heap.get b
  fams : ∀ b, b < w.next → ¬ S b → w'.fams.get b = w.fams.get b
theorem Frm.refl {S : Nat → Prop} (w : AW) : Frm S w w := ⟨Nat.le_refl _, fun _ _ _ => rfl, fun _ _ _ => rfl⟩
theorem Frm.trans {S T U : Nat → Prop} {a b c : AW} (h : Frm S a b) (h' : Frm T b c) (hs : ∀ x, x < a.next → S x → U x) (ht : ∀ x, x < a.next → T x → U x) : Frm U a c :=
  ⟨Nat.le_trans h.next h'.next, fun k hk hu => (h'.heap k (Nat.lt_of_lt_of_le hk h.next) fun x => hu (ht k hk x)).trans (h.heap k hk fun x => hu (hs k hk x)),
   fun k hk hu => (h'.fams k (Nat.lt_of_lt_of_le hk h.next) fun x => hu (ht k hk x)).trans (h.fams k hk fun x => hu (hs k hk x))⟩
theorem Frm.mono {S T : Nat → Prop} {a b : AW} (h : Frm S a b) (hs : ∀ x, x < a.next → S x → T x) : Frm T a b := ⟨h.next, fun k hk hu => h.heap k hk fun x => hu (hs k hk x), fun k hk hu => h.fams k hk fun x => hu (hs k hk x)⟩
theorem Frm.new {S : Nat → Prop} (w : AW) (x : Blk) : Frm S w (w.new x) := ⟨Nat.le_succ _, fun b hb _ => T.get_put_ne (by omega), fun _ _ _ => rfl⟩
theorem Ext.frm {N : Nat} {w w' : AW} (h : Ext N w w') {S : Nat → Prop} (hs : ∀ x, x < w.next → N ≤ x → S x) : Frm S w w' :=
  ⟨h.next, fun b hb hn => h.heap b (Nat.lt_of_not_le fun x => hn (hs b hb x)), fun b hb hn => h.fams b (Nat.lt_of_not_le fun x => hn (hs b hb x))⟩
theorem Frm.ext {N : Nat} {w w' : AW} {S : Nat → Prop} (h : Frm S w w') (hN : N ≤ w.next) (hs : ∀ x, S x → N ≤ x) : Ext N w w' :=
  ⟨hN, h.next, fun b hb => h.heap b (by omega) fun x => by have := hs b x; omega, fun b hb => h.fams b (by omega) fun x => by have := hs b x; omega⟩
/-- a footprint that took in what is new, and no more. -/
def Grown (S S' : Nat → Prop) (w w' : AW) : Prop := ∀ b, S' b → b < w'.next ∧ (S b ∨ w.next ≤ b)
def Shr (S : Nat → Prop) (w : AW) (b : Nat) (sh : Share) : Prop :=
  sh = .own ∨ sh = .lax ∨ ∃ f F, sh = .fam f ∧ S f ∧ f < w.next ∧ w.fams.get f = some F ∧ F.last = b ∧ F.floor ≤ w.next ∧ w.alive b sh = true
theorem Shr.alive {S : Nat → Prop} {w : AW} {b : Nat} {sh : Share} (h : Shr S w b sh) : w.alive b sh = true := by
  rcases h with rfl | rfl | ⟨f, F, rfl, h1, h2, h3, h4, h6, h5⟩
  · rfl
  · rfl
  · exact h5
theorem Shr.mono {S S' : Nat → Prop} {w : AW} {b : Nat} {sh : Share} (h : Shr S w b sh) (hs : ∀ x, S x → S' x) : Shr S' w b sh := by
  rcases h with rfl | rfl | ⟨f, F, rfl, h1, h2⟩
  · exact .inl rfl
  · exact .inr (.inl rfl)
  · exact .inr (.inr ⟨f, F, rfl, hs _ h1, h2⟩)
theorem Shr.frm {S T : Nat → Prop} {w w' : AW} {b : Nat} {sh : Share} (h : Shr S w b sh) (hf : Frm T w w') (hd : ∀ x, S x → ¬ T x) : Shr S w' b sh := by
  rcases h with rfl | rfl | ⟨f, F, rfl, h1, h2, h3, h4, h6, h5⟩
  · exact .inl rfl
  · exact .inr (.inl rfl)
  · have e := hf.fams f h2 (hd f h1)
    refine .inr (.inr ⟨f, F, rfl, h1, Nat.lt_of_lt_of_le h2 hf.next, e.trans h3, h4, Nat.le_trans h6 hf.next, ?_⟩)
    simp only [AW.alive, h3, e.trans h3] at h5 ⊢
    exact h5
/-- a slice of one's own: its elements' cells; behind them what its block still has room for. -/
inductive Buf (S : Nat → Prop) (w : AW) : V → Nat → Nat → List V → Prop
  | nil {esz : Nat} : Buf S w .nilslice esz 0 []
  | blk {b n esz r : Nat} {cs rest : List V} {sh : Share} (hS : S b) (hb : b < w.next) (hx : w.heap.get b = some (.cells (cs ++ rest) sh)) (hl : cs.length = n * esz) (hr : rest.length = r * esz) (he : 0 < esz) (hn : 0 < n + r) (hs : Shr S w b sh) :
      Buf S w (.slice b 0 n (.upTo esz)) esz n cs
theorem Buf.mono {S S' : Nat → Prop} {w : AW} {v : V} {esz n : Nat} {cs : List V} (h : Buf S w v esz n cs) (hs : ∀ x, S x → S' x) : Buf S' w v esz n cs := by
  cases h with
  | nil => exact .nil
  | blk hS hb hx hl hr he hn hsh => exact .blk (hs _ hS) hb hx hl hr he hn (hsh.mono hs)
theorem Buf.frm {S T : Nat → Prop} {w w' : AW} {v : V} {esz n : Nat} {cs : List V} (h : Buf S w v esz n cs) (hf : Frm T w w') (hd : ∀ x, S x → ¬ T x) : Buf S w' v esz n cs := by
  cases h with
  | nil => exact .nil
  | blk hS hb hx hl hr he hn hsh => exact .blk hS (Nat.lt_of_lt_of_le hb hf.next) ((hf.heap _ hb (hd _ hS)).trans hx) hl hr he hn (hsh.frm hf hd)
theorem Buf.len {S : Nat → Prop} {w : AW} {v : V} {esz n : Nat} {cs : List V} (h : Buf S w v esz n cs) : cs.length = n * esz := by
  cases h with
  | nil => simp
  | blk hS hb hx hl hr he hn hsh => exact hl
theorem Buf.inv {S : Nat → Prop} {w : AW} {v : V} {esz n : Nat} {cs : List V} (h : Buf S w v esz n cs) : (v = .nilslice ∧ n = 0 ∧ cs = []) ∨ ∃ b, v = .slice b 0 n (.upTo esz) ∧ S b ∧ b < w.next := by
  cases h with
  | nil => exact .inl ⟨rfl, rfl, rfl⟩
  | blk hS hb hx hl hr he hn hsh => exact .inr ⟨_, rfl, hS, hb⟩
theorem Buf.load {S : Nat → Prop} {w : AW} {b n esz : Nat} {c : Cap} {cs : List V} (h : Buf S w (.slice b 0 n c) esz n cs) {o k : Nat} (hk : o + k ≤ cs.length) : w.load b o k = some ((cs.drop o).take k) := by
  cases h with
  | blk hS hb hx hl hr he hn hsh =>
    simp only [AW.load, hx, hsh.alive]
    rw [takeN_some _ _ (by simp; omega), List.drop_append_of_le_length (by omega), List.take_append_of_le_length (by simp; omega)]
theorem over_mid : ∀ (a b c d : List V), d.length = b.length → over (a ++ b ++ c) a.length d = some (a ++ d ++ c)
  | [], b, c, d, h => by
    have : ∀ (b d : List V), d.length = b.length → over (b ++ c) 0 d = some (d ++ c) := by
      intro b
      induction b with
      | nil => intro d h; cases d with
        | nil => cases hc : c <;> rfl
        | cons x d => simp at h
      | cons y b ih => intro d h; cases d with
        | nil => simp at h
        | cons x d => simp only [List.cons_append, over, ih d (by simpa using h)]
    simpa using this b d h
  | x :: a, b, c, d, h => by
    have := over_mid a b c d h
    simp only [List.cons_append, List.length_cons, over, this]
theorem turn_frm {S : Nat → Prop} {w : AW} {b : Nat} {l : List V} {sh : Share} (hS : S b) (hs : Shr S w b sh) : Frm S w (w.turn b (.cells l sh)) := by
  refine ⟨Nat.le_refl _, fun c hc hn => T.get_put_ne fun e => hn (e ▸ hS), fun c hc hn => ?_⟩
  rcases hs with rfl | rfl | ⟨f, F, rfl, h1, h2⟩
  · rfl
  · rfl
  · exact T.get_put_ne fun e => hn (e ▸ h1)
theorem turn_shr {S : Nat → Prop} {w : AW} {b : Nat} {l : List V} {sh : Share} (hb : b < w.next) (hs : Shr S w b sh) : Shr S (w.turn b (.cells l sh)) b sh := by
  rcases hs with rfl | rfl | ⟨f, F, rfl, h1, h2, h3⟩
  · exact .inl rfl
  · exact .inr (.inl rfl)
  · have e : (w.turn b (.cells l (.fam f))).fams.get f = some ⟨b, w.next, b⟩ := T.get_put_same
    exact .inr (.inr ⟨f, _, rfl, h1, h2, e, rfl, Nat.le_refl _, by simp only [AW.alive, e, Nat.beq_refl, Bool.true_or]⟩)
theorem store_shr {S : Nat → Prop} {w : AW} {b o : Nat} {l l' vs : List V} {sh : Share} (hx : w.heap.get b = some (.cells l sh)) (hs : Shr S w b sh) (h1 : allOne vs = true) (ho : over l o vs = some l') : w.store b o vs = some (w.turn b (.cells l' sh)) := by
  have ha := hs.alive
  rcases hs with rfl | rfl | ⟨f, F, rfl, _⟩ <;> simp only [AW.store, hx, ha, h1, ho]
/-- one more element. -/
theorem Buf.add {S : Nat → Prop} {w : AW} {v : V} {esz n bytes : Nat} {cs news : List V} (h : Buf S w v esz n cs) (he : 0 < esz) (hl : news.length = esz) (h1 : allOne news = true) (hb : (n + 1) * bytes ≤ 70368744177664) (hb' : n + 1 ≤ 70368744177664) :
    ∃ v' w' S', w.appendV esz bytes v 1 news = some (v', w') ∧ Buf S' w' v' esz (n + 1) (cs ++ news) ∧ Frm S w w' ∧ Grown S S' w w' := by
  have hcl := h.len
  cases h with
  | nil =>
    refine ⟨.slice w.next 0 1 (.upTo esz), w.fresh news, fun b => b = w.next, ?_, ?_, Frm.new _ _, ?_⟩
    · simp only [AW.appendV]; rw [if_pos ⟨by simpa using hb, by omega⟩]
    · exact .blk (r := 0) (rest := []) rfl (Nat.lt_succ_self _) (by rw [List.append_nil]; exact T.get_put_same) (by simpa using hl) (by simp) he (by omega) (.inl rfl)
    · rintro b rfl; exact ⟨Nat.lt_succ_self _, .inr (Nat.le_refl _)⟩
  | @blk b _ _ r _ rest sh hS hbw hx hlen hr he' hn hs =>
    have happ : w.appendV esz bytes (.slice b 0 n (.upTo esz)) 1 news = w.appendUp esz b 0 n 1 news := if_pos ⟨rfl, hb, hb', h1, he⟩
    rw [happ]
    cases r with
    | succ r =>
      -- room behind it
      have hne : Nat.beq (0 + n * esz) (cs ++ rest).length = false := by
        rw [natBeq, decide_eq_false_iff_not, List.length_append, hlen, hr, Nat.add_mul, Nat.one_mul]; omega
      have hfit : Nat.ble (0 + (n + 1) * esz) (cs ++ rest).length = true := by
        rw [natBle, decide_eq_true_eq, List.length_append, hlen, hr, Nat.add_mul, Nat.add_mul, Nat.one_mul]; omega
      obtain ⟨r1, r2, rfl, hr1⟩ : ∃ r1 r2, rest = r1 ++ r2 ∧ r1.length = esz := ⟨rest.take esz, rest.drop esz, (List.take_append_drop _ _).symm, by rw [List.length_take, hr, Nat.add_mul, Nat.one_mul]; omega⟩
      have hov : over (cs ++ (r1 ++ r2)) (0 + n * esz) news = some (cs ++ news ++ r2) := by
        rw [← List.append_assoc, Nat.zero_add, ← hlen]; exact over_mid _ _ _ _ (by omega)
      refine ⟨.slice b 0 (n + 1) (.upTo esz), w.turn b (.cells (cs ++ news ++ r2) sh), fun x => S x ∧ x < w.next, ?_, ?_, turn_frm hS hs, ?_⟩
      · simp only [AW.appendUp, hx, hne, hfit, store_shr hx hs h1 hov]
      · refine .blk (r := r) ⟨hS, hbw⟩ hbw T.get_put_same (by rw [List.length_append, hlen, hl, Nat.add_mul, Nat.one_mul]) ?_ he (by omega) ?_
        · rw [List.length_append, hr1, Nat.add_mul, Nat.one_mul] at hr; omega
        · rcases turn_shr (l := cs ++ news ++ r2) hbw hs with rfl | rfl | ⟨f, F, rfl, q1, q2, q3⟩
          · exact .inl rfl
          · exact .inr (.inl rfl)
          · exact .inr (.inr ⟨f, F, rfl, ⟨q1, q2⟩, q2, q3⟩)
      · rintro x ⟨q1, q2⟩; exact ⟨q2, .inl q1⟩
    | zero =>
      have hr0 : rest = [] := List.length_eq_zero_iff.1 (by simpa using hr)
      subst hr0
      rw [List.append_nil] at hx
      have hbeq : Nat.beq (0 + n * esz) cs.length = true := by rw [Nat.zero_add, hlen, Nat.beq_refl]
      have fam : ∀ (u : AW) (f : Nat) (F : Fam), w.next ≤ u.next → Frm S w u → u.heap.get b = some (.cells cs (.fam f)) → (S f ∨ w.next ≤ f) → f < u.next → b < u.next → u.fams.get f = some F → F.last = b → F.floor ≤ u.next → u.alive b (.fam f) = true →
          ∃ v' w' S', u.appendFam esz b 0 n 1 news = some (v', w') ∧ Buf S' w' v' esz (n + 1) (cs ++ news) ∧ Frm S w w' ∧ Grown S S' w w' := by
        intro u f F hle hfu hx hSf hfl hbu hF hlast hflo hal
        refine ⟨.slice u.next 0 (n + 1) (.upTo esz), u.grow b f F (cs.drop 0 ++ news), fun x => x = u.next ∨ x = f, ?_, ?_, ?_, ?_⟩
        · simp only [AW.appendFam, hx, hal, hF, hbeq]
        · have hg : (u.grow b f F (cs.drop 0 ++ news)).fams.get f = some ⟨F.keep, F.floor, u.next⟩ := by
            simp only [AW.grow, T.get_putk, if_true, hlast, Nat.beq_refl]
          refine .blk (r := 0) (rest := []) (sh := .fam f) (.inl rfl) (Nat.lt_succ_self _) ?_ ?_ (by simp) he (by omega) (.inr (.inr ⟨f, ⟨F.keep, F.floor, u.next⟩, rfl, .inr rfl, Nat.lt_succ_of_lt hfl, hg, rfl, Nat.le_succ_of_le hflo, ?_⟩))
          · simp only [AW.grow, T.get_putk, if_true, List.drop_zero, List.append_nil]
          · rw [List.length_append, hlen, hl, Nat.add_mul, Nat.one_mul]
          · simp only [AW.alive, hg, Bool.or_eq_true]
            exact .inr (Nat.ble_eq_true_of_le hflo)
        · refine hfu.trans (T := fun x => x = f ∨ u.next ≤ x) ⟨Nat.le_succ _, fun c hc hn => T.get_put_ne (by omega), fun c hc hn => T.get_put_ne fun e => hn (.inl e)⟩ (fun x hx h => h) ?_
          rintro x hx (rfl | h)
          · rcases hSf with h | h
            · exact h
            · omega
          · omega
        · rintro x (rfl | rfl)
          · exact ⟨Nat.lt_succ_self _, .inr hle⟩
          · exact ⟨Nat.lt_succ_of_lt hfl, hSf⟩
      have fnd : sh = .own ∨ sh = .lax → ∃ v' w' S', (w.found b cs).appendFam esz b 0 n 1 news = some (v', w') ∧ Buf S' w' v' esz (n + 1) (cs ++ news) ∧ Frm S w w' ∧ Grown S S' w w' := by
        intro _
        refine fam (w.found b cs) w.next ⟨b, w.next + 1, b⟩ (Nat.le_succ _) ⟨Nat.le_succ _, fun c hc hn => T.get_put_ne fun e => hn (e ▸ hS), fun c hc hn => T.get_put_ne (by omega)⟩ T.get_put_same (.inr (Nat.le_refl _)) (Nat.lt_succ_self _) (Nat.lt_succ_of_lt hbw) T.get_put_same rfl (Nat.le_refl _) ?_
        simp only [AW.alive, AW.found, T.get_putk, if_true, Nat.beq_refl, Bool.true_or]
      simp only [AW.appendUp, hx, hbeq, List.append_nil]
      rcases hs with rfl | rfl | ⟨f, F, rfl, g1, g2, g3, g4, g6, g5⟩
      · exact fnd (.inl rfl)
      · exact fnd (.inr rfl)
      · exact fam w f F (Nat.le_refl _) (Frm.refl _) hx (.inl g1) g2 hbw g3 g4 g6 g5
/-- one more element that was just built. -/
theorem Buf.push {S : Nat → Prop} {w : AW} {v : V} {esz n bytes : Nat} {cs news : List V} (h : Buf S w v esz n cs) (hS : ∀ b, S b → b < w.next) (he : 0 < esz) (hl : news.length = esz) (h1 : allOne news = true) (hb : (n + 1) * bytes ≤ 70368744177664) (hb' : n + 1 ≤ 70368744177664) :
    ∃ v' w' S', (w.fresh news).appendV esz bytes v 1 news = some (v', w') ∧ Buf S' w' v' esz (n + 1) (cs ++ news) ∧ Frm S w w' ∧ Grown S S' w w' := by
  have hx : Frm (fun _ => False) w (w.fresh news) := Frm.new _ _
  obtain ⟨v', w', S', h2, h3, h4, h5⟩ := (h.frm hx fun _ _ h => h).add (news := news) (bytes := bytes) he hl h1 hb hb'
  refine ⟨v', w', S', h2, h3, hx.trans h4 (fun _ _ h => h.elim) fun _ _ h => h, fun b hb => ?_⟩
  obtain ⟨q1, q2⟩ := h5 b hb
  exact ⟨q1, q2.imp id fun h => Nat.le_trans hx.next h⟩
/-- one put in ahead of the i-th. -/
theorem Buf.insert {S : Nat → Prop} {w : AW} {b n bytes i bv : Nat} {cs : List V} {x : V} (h : Buf S w (.slice b 0 n (.upTo 1)) 1 n cs) (hi : i < n) (hv : w.heap.get bv = some (.cells [x] .own)) (hne : bv ≠ b) (h1 : x.one = true) (h2 : allOne cs = true) (hb : (n + 1) * bytes ≤ 70368744177664) (hb' : n + 1 ≤ 70368744177664) {k : Nat} :
    ∃ v' w' S', insPrim bytes [.slice b 0 n (.upTo 1), .int .i64 (.ofNat i), .slice bv 0 1 (.known k)] w = some (v', w') ∧ Buf S' w' v' 1 (n + 1) (cs.take i ++ [x] ++ cs.drop i) ∧ Frm S w w' ∧ Grown S S' w w' := by
  have hcl := h.len
  rw [Nat.mul_one] at hcl
  have hld := h.load (o := 0) (k := n) (by omega)
  rw [List.drop_zero, List.take_of_length_le (by omega)] at hld
  have hvl : w.load bv 0 1 = some [x] := by simp only [AW.load, hv, AW.alive, List.drop_zero, takeN]
  have hbv : Nat.beq bv b = false := by rw [natBeq, decide_eq_false hne]
  have hone : allOne [x] = true := by simp [allOne, h1]
  cases h with
  | @blk _ _ _ r _ rest sh hS hbw hx hlen hr he' hn hs =>
    have fam : ∀ (u : AW) (f : Nat), w.next ≤ u.next → Frm S w u → u.heap.get b = some (.cells (cs ++ rest) (.fam f)) → (S f ∨ w.next ≤ f) → f < u.next →
        ∃ v' w' S', u.insFam b n 1 (cs.take i ++ [x] ++ cs.drop i) = some (v', w') ∧ Buf S' w' v' 1 (n + 1) (cs.take i ++ [x] ++ cs.drop i) ∧ Frm S w w' ∧ Grown S S' w w' := by
      intro u f hle hfu hx hSf hfl
      refine ⟨.slice u.next 0 (n + 1) (.upTo 1), u.reborn f (cs.take i ++ [x] ++ cs.drop i), fun x => x = u.next, ?_, ?_, ?_, ?_⟩
      · simp only [AW.insFam, hx]
      · refine .blk (r := 0) (rest := []) (sh := .lax) rfl (Nat.lt_succ_self _) (by rw [List.append_nil]; exact T.get_put_same) ?_ (by simp) (by omega) (by omega) (.inr (.inl rfl))
        simp only [List.length_append, List.length_take, List.length_drop, List.length_cons, List.length_nil]; omega
      · refine hfu.trans (T := fun x => x = f ∨ u.next ≤ x) ⟨Nat.le_succ _, fun c hc hn => T.get_put_ne (by omega), fun c hc hn => T.get_put_ne fun e => hn (.inl e)⟩ (fun x hx h => h) ?_
        rintro x hx (rfl | h)
        · rcases hSf with h | h
          · exact h
          · omega
        · omega
      · rintro x rfl
        exact ⟨Nat.lt_succ_self _, .inr hle⟩
    have fnd : (w.found b (cs ++ rest)).alive b (.fam w.next) = true ∧ ∃ v' w' S', (w.found b (cs ++ rest)).insFam b n 1 (cs.take i ++ [x] ++ cs.drop i) = some (v', w') ∧ Buf S' w' v' 1 (n + 1) (cs.take i ++ [x] ++ cs.drop i) ∧ Frm S w w' ∧ Grown S S' w w' :=
      ⟨by simp only [AW.alive, AW.found, T.get_putk, if_true, Nat.beq_refl, Bool.true_or],
        fam _ w.next (Nat.le_succ _) ⟨Nat.le_succ _, fun c hc hn => T.get_put_ne fun e => hn (e ▸ hS), fun c hc hn => T.get_put_ne (by omega)⟩ T.get_put_same (.inr (Nat.le_refl _)) (Nat.lt_succ_self _)⟩
    have e1 : Nat.blt i n = true := by rw [natBlt, decide_eq_true hi]
    have e2 : Nat.blt 0 1 = true := rfl
    have e3 : Nat.ble ((n + 1) * bytes) 70368744177664 = true := Nat.ble_eq_true_of_le hb
    have e4 : Nat.ble (n + 1) 70368744177664 = true := Nat.ble_eq_true_of_le hb'
    rcases hs with rfl | rfl | ⟨f, F, rfl, g1, g2, g3, g4, g6, g5⟩
    · simp only [insPrim, e1, e2, e3, e4, hbv, hv, hvl, hld, hone, h2, hx, fnd.1]; exact fnd.2
    · simp only [insPrim, e1, e2, e3, e4, hbv, hv, hvl, hld, hone, h2, hx, fnd.1]; exact fnd.2
    · simp only [insPrim, e1, e2, e3, e4, hbv, hv, hvl, hld, hone, h2, hx]; exact fam w f (Nat.le_refl _) (Frm.refl _) hx (.inl g1) g2
end Go.AE

set_option linter.unusedVariables false
set_option linter.unusedSectionVars false
set_option linter.unusedSimpArgs false
namespace Go.AE
variable [Globs]
section
variable {tab : Tab}
/-- how one stood, found in the middle of a region. -/
def mkStp (fr : Fr) (hide : List Nat) (v : V) (a b : AW) : Stp := ⟨hideL fr hide, v, a, b⟩
inductive DS where
  | on (l : List DOper) (fr : Fr) (aw : AW) (acc : List Stp)
/-- as far as nothing is open. -/
def dRun0 : Nat → List DOper → Fr → AW → List Stp → DS
  | 0, l, fr, aw, acc => .on l fr aw acc
  | n + 1, [], fr, aw, acc => .on [] fr aw acc
  | n + 1, d :: l, fr, aw, acc => match wanted (hideL fr d.hide) d.op.guard with
    | some true => match aop d.op.op (hideL fr d.hide) aw with
      | some (.val v, aw1) => dRun0 n l (putO fr d.op.dst v) aw1 (mkStp fr d.hide v aw aw1 :: acc)
      | some (.skip, aw1) => dRun0 n l (putO fr d.op.dst .undef) aw1 (mkStp fr d.hide .undef aw aw1 :: acc)
      | _ => .on (d :: l) fr aw acc
    | some false => dRun0 n l (putO fr d.op.dst .undef) aw (mkStp fr d.hide .undef aw aw :: acc)
    | none => .on (d :: l) fr aw acc
theorem dRunE_ex : ∃ f : Nat → List DOper → Fr → AW → List Stp → DS, f = dRun0 := ⟨_, rfl⟩
@[irreducible] noncomputable def dRunE : Nat → List DOper → Fr → AW → List Stp → DS := Classical.choose dRunE_ex
theorem dRunE_eq : dRunE = dRun0 := by unfold dRunE; exact Classical.choose_spec dRunE_ex
theorem dRunE_nil {n : Nat} {fr : Fr} {aw : AW} {acc : List Stp} : dRunE (n + 1) [] fr aw acc = .on [] fr aw acc := by rw [dRunE_eq]; rfl
theorem dRunE_cons {n : Nat} {d : DOper} {l : List DOper} {fr : Fr} {aw : AW} {acc : List Stp} : dRunE (n + 1) (d :: l) fr aw acc = match wanted (hideL fr d.hide) d.op.guard with
    | some true => match aop d.op.op (hideL fr d.hide) aw with
      | some (.val v, aw1) => dRunE n l (putO fr d.op.dst v) aw1 (mkStp fr d.hide v aw aw1 :: acc)
      | some (.skip, aw1) => dRunE n l (putO fr d.op.dst .undef) aw1 (mkStp fr d.hide .undef aw aw1 :: acc)
      | _ => .on (d :: l) fr aw acc
    | some false => dRunE n l (putO fr d.op.dst .undef) aw (mkStp fr d.hide .undef aw aw :: acc)
    | none => .on (d :: l) fr aw acc := by rw [dRunE_eq]; rfl
end
theorem over_cell : ∀ (l : List V) (i : Nat) (v : V), i < l.length → over l i [v] = some (l.set i v)
  | [], i, v, h => by simp at h
  | x :: l, 0, v, h => by simp [over]
  | x :: l, i + 1, v, h => by simp only [over, over_cell l i v (by simpa using h), List.set_cons_succ]
theorem store_cell {w : AW} {b i : Nat} {l : List V} {v : V} (hx : w.heap.get b = some (.cells l .own)) (hi : i < l.length) (hv : v.one = true) : w.store b i [v] = some (w.turn b (.cells (l.set i v) .own)) := by
  simp only [AW.store, hx, AW.alive, allOne, hv, over_cell l i v hi]
theorem cells_int {k : IntKind} {n : Int} : (V.int k n).cells = [.int k n] := rfl
theorem cells_bool {b : Bool} : (V.bool b).cells = [.bool b] := rfl
theorem cells_str {l : List Nat} : (V.str l).cells = [.str l] := rfl
theorem cells_agg {l : List V} : (V.agg l).cells = l := rfl
theorem cells_slice {b o n : Nat} {c : Cap} : (V.slice b o n c).cells = [.slice b o n c] := rfl
theorem cells_nilslice : V.nilslice.cells = [.nilslice] := rfl
theorem cells_ptr {b o : Nat} : (V.ptr b o).cells = [.ptr b o] := rfl
theorem cells_nilptr : V.nilptr.cells = [.nilptr] := rfl
theorem ne_ff : (false != false) = false := rfl
theorem ne_ft : (false != true) = true := rfl
theorem ne_tf : (true != false) = true := rfl
theorem ne_tt : (true != true) = false := rfl
attribute [go_sem] dRunE_nil dRunE_cons ne_ff ne_ft ne_tf ne_tt cells_int cells_bool cells_str cells_agg cells_slice cells_nilslice cells_ptr cells_nilptr
end Go.AE

set_option linter.unusedVariables false
set_option linter.unusedSectionVars false
set_option linter.unusedSimpArgs false
namespace Go.AE
variable [Globs]
end Go.AE

set_option linter.unusedVariables false
set_option linter.unusedSectionVars false
set_option linter.unusedSimpArgs false
namespace Go.AE
variable [Globs]
theorem resOne_nil : resOne [] = .tuple [] := rfl
attribute [go_sem] resOne_nil Nat.add_zero
/-- a block that is read: what keeps it. -/
def Al (T : Nat → Prop) (w : AW) (b : Nat) (sh : Share) : Prop :=
  sh = .own ∨ sh = .lax ∨ sh = .ro ∨ ∃ f F, sh = .fam f ∧ T f ∧ f < w.next ∧ w.fams.get f = some F ∧ w.alive b sh = true
theorem Al.alive {T : Nat → Prop} {w : AW} {b : Nat} {sh : Share} (h : Al T w b sh) : w.alive b sh = true := by
  rcases h with rfl | rfl | rfl | ⟨f, F, rfl, h1, h2, h3, h4⟩
  · rfl
  · rfl
  · rfl
  · exact h4
theorem Al.frm {T S : Nat → Prop} {w w' : AW} {b : Nat} {sh : Share} (h : Al T w b sh) (hf : Frm S w w') (hd : ∀ x, T x → ¬ S x) : Al T w' b sh := by
  rcases h with rfl | rfl | rfl | ⟨f, F, rfl, h1, h2, h3, h4⟩
  · exact .inl rfl
  · exact .inr (.inl rfl)
  · exact .inr (.inr (.inl rfl))
  · have e := hf.fams f h2 (hd f h1)
    refine .inr (.inr (.inr ⟨f, F, rfl, h1, Nat.lt_of_lt_of_le h2 hf.next, e.trans h3, ?_⟩))
    simp only [AW.alive, h3, e.trans h3] at h4 ⊢
    exact h4
theorem Al.mono {T T' : Nat → Prop} {w : AW} {b : Nat} {sh : Share} (h : Al T w b sh) (ht : ∀ x, T x → T' x) : Al T' w b sh := by
  rcases h with rfl | rfl | rfl | ⟨f, F, rfl, h1, h2⟩
  · exact .inl rfl
  · exact .inr (.inl rfl)
  · exact .inr (.inr (.inl rfl))
  · exact .inr (.inr (.inr ⟨f, F, rfl, ht f h1, h2⟩))
def CapFit (esz n : Nat) : Cap → Prop
  | .known k => n ≤ k
  | .upTo z => z = esz ∨ n = 0
inductive Rd (T : Nat → Prop) (w : AW) : V → Nat → Nat → List V → Prop
  | nil {esz : Nat} : Rd T w .nilslice esz 0 []
  | blk {b o n esz : Nat} {c : Cap} {l cs : List V} {sh : Share} (hT : T b) (hb : b < w.next) (hx : w.heap.get b = some (.cells l sh)) (ha : Al T w b sh) (hl : o + n * esz ≤ l.length) (hcs : cs = (l.drop o).take (n * esz)) (hc : CapFit esz n c) : Rd T w (.slice b o n c) esz n cs
theorem Rd.len {T : Nat → Prop} {w : AW} {v : V} {esz n : Nat} {cs : List V} (h : Rd T w v esz n cs) : cs.length = n * esz := by
  cases h with
  | nil => simp
  | blk hT hb hx ha hl hcs hc => rw [hcs, List.length_take, List.length_drop]; omega
theorem Rd.frm {T S : Nat → Prop} {w w' : AW} {v : V} {esz n : Nat} {cs : List V} (h : Rd T w v esz n cs) (hf : Frm S w w') (hd : ∀ x, T x → ¬ S x) : Rd T w' v esz n cs := by
  cases h with
  | nil => exact .nil
  | blk hT hb hx ha hl hcs hc => exact .blk hT (Nat.lt_of_lt_of_le hb hf.next) ((hf.heap _ hb (hd _ hT)).trans hx) (ha.frm hf hd) hl hcs hc
theorem Rd.mono {T T' : Nat → Prop} {w : AW} {v : V} {esz n : Nat} {cs : List V} (h : Rd T w v esz n cs) (ht : ∀ x, T x → T' x) : Rd T' w v esz n cs := by
  cases h with
  | nil => exact .nil
  | blk hT hb hx ha hl hcs hc => exact .blk (ht _ hT) hb hx (ha.mono ht) hl hcs hc
/-- what reading comes to. -/
structure RdB (T : Nat → Prop) (w : AW) (b o n esz : Nat) (c : Cap) (cs : List V) : Prop where
  own : T b
  lt : b < w.next
  fit : CapFit esz n c
  load : ∀ i k, i + k ≤ n * esz → w.load b (o + i) k = some ((cs.drop i).take k)
  get : ∃ l sh, w.heap.get b = some (.cells l sh) ∧ w.alive b sh = true
theorem Rd.inv {T : Nat → Prop} {w : AW} {v : V} {esz n : Nat} {cs : List V} (h : Rd T w v esz n cs) : (v = .nilslice ∧ n = 0 ∧ cs = []) ∨ ∃ b o c, v = .slice b o n c ∧ RdB T w b o n esz c cs := by
  cases h with
  | nil => exact .inl ⟨rfl, rfl, rfl⟩
  | @blk b o _ _ c l _ sh hT hb hx ha hl hcs hc =>
    refine .inr ⟨b, o, c, rfl, ⟨hT, hb, hc, fun i k hik => ?_, l, sh, hx, ha.alive⟩⟩
    simp only [AW.load, hx, ha.alive]
    rw [takeN_some _ _ (by simp; omega), hcs]
    congr 1
    rw [List.drop_take, List.take_take, List.drop_drop, Nat.min_eq_left (by omega)]
/-- a cell. -/
theorem RdB.cell {T : Nat → Prop} {w : AW} {b o n esz : Nat} {c : Cap} {cs : List V} (h : RdB T w b o n esz c cs) {i : Nat} {x : V} (hi : i < n * esz) (hx : cs[i]? = some x) : w.load b (o + i) 1 = some [x] := by
  rw [h.load i 1 (by omega)]
  have hlt : i < cs.length := (List.getElem?_eq_some_iff.1 hx).1
  rw [List.drop_eq_getElem_cons hlt]
  rw [List.getElem?_eq_getElem hlt] at hx
  rw [Option.some.inj hx]; rfl
/-- an element, of elements told one by one. -/
theorem flat_at {α : Type} {r : α → List V → Prop} {sz : Nat} (hsz : ∀ a xs, r a xs → xs.length = sz) : ∀ {l : List α} {xss : List (List V)}, All2 r l xss → ∀ {i : Nat} {a : α}, l[i]? = some a → ∃ xs, r a xs ∧ (xss.flatten.drop (i * sz)).take sz = xs
  | [], _, .nil, i, a, h => by simp at h
  | x :: l, y :: m, .cons h1 h2, 0, a, h => by
    simp at h; subst h
    refine ⟨y, h1, ?_⟩
    rw [Nat.zero_mul, List.drop_zero, List.flatten_cons, ← hsz _ _ h1, List.take_left']
    rfl
  | x :: l, y :: m, .cons h1 h2, i + 1, a, h => by
    obtain ⟨xs, q1, q2⟩ := flat_at hsz h2 (i := i) (a := a) (by simpa using h)
    refine ⟨xs, q1, ?_⟩
    have hy := hsz _ _ h1
    rw [List.flatten_cons, Nat.add_mul, Nat.one_mul, Nat.add_comm (i * sz), ← List.drop_drop, ← hy, List.drop_left' rfl, hy]
    exact q2
/-- elements, each told by a relation. -/
def RdL {α : Type} (r : AW → α → List V → Prop) (T : Nat → Prop) (w : AW) (v : V) (esz : Nat) (l : List α) : Prop := ∃ xss, Rd T w v esz l.length xss.flatten ∧ All2 (r w) l xss
theorem RdL.inv {α : Type} {r : AW → α → List V → Prop} {T : Nat → Prop} {w : AW} {v : V} {esz : Nat} {l : List α} (h : RdL r T w v esz l) (hsz : ∀ a xs, r w a xs → xs.length = esz) :
    (v = .nilslice ∧ l = []) ∨ ∃ b o c, v = .slice b o l.length c ∧ T b ∧ b < w.next ∧ CapFit esz l.length c ∧ ∀ i a, l[i]? = some a → ∃ xs, r w a xs ∧ ∀ j k, j + k ≤ esz → w.load b (o + i * esz + j) k = some ((xs.drop j).take k) := by
  obtain ⟨xss, h1, h2⟩ := h
  rcases h1.inv with ⟨q1, q2, q3⟩ | ⟨b, o, c, rfl, hB⟩
  · exact .inl ⟨q1, List.length_eq_zero_iff.1 q2⟩
  · refine .inr ⟨b, o, c, rfl, hB.own, hB.lt, hB.fit, fun i a hi => ?_⟩
    obtain ⟨xs, q1, q2⟩ := flat_at hsz h2 hi
    refine ⟨xs, q1, fun j k hjk => ?_⟩
    have hlt : i < l.length := (List.getElem?_eq_some_iff.1 hi).1
    have hle : (i + 1) * esz ≤ l.length * esz := Nat.mul_le_mul_right _ hlt
    rw [Nat.add_mul, Nat.one_mul] at hle
    rw [Nat.add_assoc, hB.load (i * esz + j) k (by omega), ← q2, List.drop_take, List.take_take, Nat.min_eq_left (by omega), List.drop_drop]
theorem RdL.frm {α : Type} {r : AW → α → List V → Prop} {T S : Nat → Prop} {w w' : AW} {v : V} {esz : Nat} {l : List α} (h : RdL r T w v esz l) (hr : ∀ a xs, r w a xs → r w' a xs) (hf : Frm S w w') (hd : ∀ x, T x → ¬ S x) : RdL r T w' v esz l := by
  obtain ⟨xss, h1, h2⟩ := h
  exact ⟨xss, h1.frm hf hd, h2.imp hr⟩
theorem RdL.mono {α : Type} {r r' : AW → α → List V → Prop} {T T' : Nat → Prop} {w : AW} {v : V} {esz : Nat} {l : List α} (h : RdL r T w v esz l) (hr : ∀ a xs, r w a xs → r' w a xs) (ht : ∀ x, T x → T' x) : RdL r' T' w v esz l := by
  obtain ⟨xss, h1, h2⟩ := h
  exact ⟨xss, h1.mono ht, h2.imp hr⟩
/-- what was appended to is read. -/
theorem Buf.rd {S : Nat → Prop} {w : AW} {v : V} {esz n : Nat} {cs : List V} (h : Buf S w v esz n cs) : Rd S w v esz n cs := by
  cases h with
  | nil => exact .nil
  | @blk b _ _ r _ rest sh hS hb hx hl hr he hn hs =>
    refine .blk hS hb hx ?_ (by rw [List.length_append, hl]; omega) (by rw [List.drop_zero, List.take_append_of_le_length (by omega), List.take_of_length_le (by omega)]) (.inl rfl)
    rcases hs with rfl | rfl | ⟨f, F, rfl, h1, h2, h3, h4, h6, h5⟩
    · exact .inl rfl
    · exact .inr (.inl rfl)
    · exact .inr (.inr (.inr ⟨f, F, rfl, h1, h2, h3, h5⟩))
theorem Own.rd {N : Nat} {w : AW} {v : V} {esz n : Nat} {cs : List V} (h : Own N w v esz n cs) : Rd (fun b => N ≤ b ∧ b < w.next) w v esz n cs := by
  cases h with
  | nil => exact .nil
  | @blk b _ _ _ sh hN hb hx hl he hn hs =>
    refine .blk ⟨hN, hb⟩ hb hx ?_ (by omega) (by rw [List.drop_zero, List.take_of_length_le (by omega)]) (.inl rfl)
    rcases hs with rfl | rfl | ⟨f, F, rfl, h1, h2, h3, h4, h6, h5⟩
    · exact .inl rfl
    · exact .inr (.inl rfl)
    · exact .inr (.inr (.inr ⟨f, F, rfl, ⟨h1, h2⟩, h2, h3, h5⟩))
theorem Rd.elems {T : Nat → Prop} {w : AW} {v : V} {esz n : Nat} {cs : List V} (h : Rd T w v esz n cs) : w.elems esz v = some (n, cs) := by
  have hlen := h.len
  rcases h.inv with ⟨rfl, rfl, rfl⟩ | ⟨b, o, c, rfl, hB⟩
  · rfl
  · cases n with
    | zero =>
      have : cs = [] := List.length_eq_zero_iff.1 (by omega)
      subst this; rfl
    | succ n =>
      have := hB.load 0 ((n + 1) * esz) (by omega)
      rw [Nat.add_zero, List.drop_zero, List.take_of_length_le (by omega)] at this
      simp only [AW.elems, this]
theorem Rd.lenV {T : Nat → Prop} {w : AW} {v : V} {esz n : Nat} {cs : List V} (h : Rd T w v esz n cs) : lenV v = some n := by cases h <;> rfl
theorem Buf.lenV {S : Nat → Prop} {w : AW} {v : V} {esz n : Nat} {cs : List V} (h : Buf S w v esz n cs) : lenV v = some n := by cases h <;> rfl
/-- a block of one's own: its cells. -/
structure CB (w : AW) (b : Nat) (l : List V) : Prop where
  lt : b < w.next
  get : w.heap.get b = some (.cells l .own)
theorem CB.frm {S : Nat → Prop} {w w' : AW} {b : Nat} {l : List V} (h : CB w b l) (hf : Frm S w w') (hn : ¬ S b) : CB w' b l := ⟨Nat.lt_of_lt_of_le h.lt hf.next, (hf.heap b h.lt hn).trans h.get⟩
theorem CB.load {w : AW} {b : Nat} {l : List V} (h : CB w b l) (o n : Nat) : w.load b o n = takeN n (l.drop o) := by simp only [AW.load, h.get]; rfl
theorem CB.all {w : AW} {b n : Nat} {l : List V} (h : CB w b l) (hn : l.length = n) : w.load b 0 n = some l := by rw [h.load, List.drop_zero]; exact takeN_all _ _ hn
def AW.put (w : AW) (b : Nat) (l : List V) : AW := w.turn b (.cells l .own)
theorem CB.set {w : AW} {b i : Nat} {l : List V} {v : V} (h : CB w b l) (hi : i < l.length) (hv : v.one = true) : w.store b i [v] = some (w.put b (l.set i v)) := store_cell h.get hi hv
theorem Frm.tr {S : Nat → Prop} {a b c : AW} (h : Frm S a b) (h' : Frm S b c) : Frm S a c := h.trans h' (fun _ _ h => h) fun _ _ h => h
theorem Frm.no {S : Nat → Prop} {a b : AW} (h : Frm (fun _ => False) a b) : Frm S a b := h.mono fun _ _ h => h.elim
/-- one more, that a relation tells. -/
theorem All2.cells {α : Type} {r : α → List V → Prop} {l : List α} {xss : List (List V)} {a : α} {xs : List V} (h : All2 r l xss) (hx : r a xs) : All2 r (l ++ [a]) (xss ++ [xs]) ∧ (xss ++ [xs]).flatten = xss.flatten ++ xs := ⟨h.snoc hx, by simp⟩
end Go.AE

set_option linter.unusedVariables false
set_option linter.unusedSectionVars false
set_option linter.unusedSimpArgs false
set_option linter.unusedSectionVars false
namespace Go.AE
variable [Globs]
theorem cells_map {b : Nat} : (V.map b).cells = [.map b] := rfl
theorem cells_nilmap : V.nilmap.cells = [.nilmap] := rfl
theorem cells_func {f : Fn} {a c : List V} : (V.func f a c).cells = [.func f a c] := rfl
theorem cells_iface {t : Nat} {v : V} : (V.iface t v).cells = [.iface t v] := rfl
theorem cells_niliface : V.niliface.cells = [.niliface] := rfl
attribute [go_sem] cells_map cells_nilmap cells_func cells_iface cells_niliface
section
variable {α β : Type} [DecidableEq α]
/-- what stands at a key. -/
def aget : List (α × β) → α → Option β
  | [], _ => none
  | (a, b) :: l, k => if k = a then some b else aget l k
/-- a value put at a key: in its place, or behind. -/
def aput : List (α × β) → α → β → List (α × β)
  | [], k, v => [(k, v)]
  | (a, b) :: l, k, v => if k = a then (a, v) :: l else (a, b) :: aput l k v
/-- how keys stand as values. -/
structure KeyE (t : KeyTy) (ke : α → V) : Prop where
  eq : ∀ a b, eqKey t (ke a) (ke b) = some (decide (a = b))
  ok : ∀ a, keyOk t (ke a) = true
def MRel (ke : α → V) (ve : β → V) (p : α × β) (e : V × V × Nat) : Prop := e.1 = ke p.1 ∧ e.2.1 = ve p.2
/-- a map's block. -/
structure MB (ke : α → V) (ve : β → V) (w : AW) (b : Nat) (M : List (α × β)) : Prop where
  lt : b < w.next
  get : ∃ es ck, w.heap.get b = some (.map es ck) ∧ All2 (MRel ke ve) M es
variable {ke : α → V} {ve : β → V} {t : KeyTy}
theorem MB.frm {S : Nat → Prop} {w w' : AW} {b : Nat} {M : List (α × β)} (h : MB ke ve w b M) (hf : Frm S w w') (hn : ¬ S b) : MB ke ve w' b M := by
  obtain ⟨es, ck, h1, h2⟩ := h.get
  exact ⟨Nat.lt_of_lt_of_le h.lt hf.next, es, ck, (hf.heap b h.lt hn).trans h1, h2⟩
theorem findE_map (hk : KeyE t ke) {k : α} : ∀ {M : List (α × β)} {es : List (V × V × Nat)} (i : Nat), All2 (MRel ke ve) M es →
    (aget M k = none → findE t (ke k) es i = some none) ∧ ∀ v, aget M k = some v → ∃ j n, findE t (ke k) es i = some (some (i + j, ve v, n)) ∧ ∀ v', All2 (MRel ke ve) (aput M k v') (setE j (ke k) (ve v') es)
  | [], _, i, .nil => ⟨fun _ => rfl, fun v h => by simp [aget] at h⟩
  | (a, b) :: M, (x, y, n) :: es, i, .cons h1 h2 => by
    obtain ⟨q1, q2⟩ := h1
    simp only at q1 q2
    subst q1; subst q2
    by_cases h : k = a
    · subst h
      refine ⟨fun hn => by simp [aget] at hn, fun v hv => ?_⟩
      simp only [aget, if_true, Option.some.injEq] at hv
      subst hv
      refine ⟨0, n, by simp only [findE, hk.eq, decide_true, Nat.add_zero], fun v' => ?_⟩
      simp only [aput, if_true, setE, List.getElem?_cons_zero, List.set_cons_zero]
      exact .cons ⟨rfl, rfl⟩ h2
    · obtain ⟨r1, r2⟩ := findE_map hk (k := k) (i + 1) h2
      refine ⟨fun hn => ?_, fun v hv => ?_⟩
      · simp only [aget, if_neg h] at hn
        simp only [findE, hk.eq, decide_eq_false h]
        exact r1 hn
      · simp only [aget, if_neg h] at hv
        obtain ⟨j, m, s1, s2⟩ := r2 v hv
        refine ⟨j + 1, m, ?_, fun v' => ?_⟩
        · simp only [findE, hk.eq, decide_eq_false h]
          rw [s1]; congr 3; omega
        · have := s2 v'
          simp only [aput, if_neg h]
          have e : setE (j + 1) (ke k) (ve v') ((ke a, ve b, n) :: es) = (ke a, ve b, n) :: setE j (ke k) (ve v') es := by
            simp only [setE, List.getElem?_cons_succ]
            split <;> simp
          rw [e]
          exact .cons ⟨rfl, rfl⟩ this
theorem All2.length_eq {γ δ : Type} {r : γ → δ → Prop} {l : List γ} {m : List δ} (h : All2 r l m) : l.length = m.length := h.len
theorem aput_none : ∀ {M : List (α × β)} {k : α}, aget M k = none → ∀ v, aput M k v = M ++ [(k, v)]
  | [], k, _, v => rfl
  | (a, b) :: M, k, h, v => by
    simp only [aget] at h
    split at h
    · cases h
    · rename_i hn
      simp only [aput, if_neg hn, aput_none h v, List.cons_append]
theorem mturn_frm {w : AW} {b : Nat} {es : List (V × V × Nat)} {ck : Nat} : Frm (fun x => x = b) w (w.turn b (.map es ck)) :=
  ⟨Nat.le_refl _, fun c hc hn => T.get_put_ne hn, fun c hc hn => rfl⟩
theorem MB.put (hk : KeyE t ke) {w : AW} {b : Nat} {M : List (α × β)} (h : MB ke ve w b M) (k : α) (v : β) : ∃ w', w.putV t (.map b) (ke k) (ve v) = some w' ∧ MB ke ve w' b (aput M k v) ∧ Frm (fun x => x = b) w w' ∧ w'.next = w.next := by
  obtain ⟨es, ck, h1, h2⟩ := h.get
  obtain ⟨r1, r2⟩ := findE_map hk (k := k) 0 h2
  simp only [AW.putV, AW.entries, h1, hk.ok]
  cases hg : aget M k with
  | none =>
    refine ⟨w.turn b (.map (es ++ [(ke k, ve v, ck)]) (ck + 1)), by simp only [r1 hg], ⟨h.lt, _, _, T.get_put_same, ?_⟩, mturn_frm, rfl⟩
    rw [aput_none hg]
    exact h2.snoc ⟨rfl, rfl⟩
  | some u =>
    obtain ⟨j, n, s1, s2⟩ := r2 u hg
    refine ⟨w.turn b (.map (setE j (ke k) (ve v) es) ck), ?_, ⟨h.lt, _, _, T.get_put_same, s2 v⟩, mturn_frm, rfl⟩
    simp only [s1, Nat.zero_add]
theorem MB.len {w : AW} {b : Nat} {M : List (α × β)} (h : MB ke ve w b M) : ∃ es ck, w.entries (.map b) = some (some b, es, ck) ∧ es.length = M.length := by
  obtain ⟨es, ck, h1, h2⟩ := h.get
  exact ⟨es, ck, by simp only [AW.entries, h1], h2.len.symm⟩
theorem MB.new (w : AW) : MB ke ve (w.new (.map [] 0)) w.next ([] : List (α × β)) := ⟨Nat.lt_succ_self _, [], 0, T.get_put_same, .nil⟩
end
/-- a slice of one's own that fills its block. -/
inductive Bt (S : Nat → Prop) (w : AW) : V → Nat → Nat → List V → Prop
  | nil {esz : Nat} : Bt S w .nilslice esz 0 []
  | blk {b n esz : Nat} {cs : List V} {sh : Share} (hS : S b) (hb : b < w.next) (hx : w.heap.get b = some (.cells cs sh)) (hl : cs.length = n * esz) (he : 0 < esz) (hn : 0 < n) (hs : Shr S w b sh) : Bt S w (.slice b 0 n (.upTo esz)) esz n cs
theorem Bt.buf {S : Nat → Prop} {w : AW} {v : V} {esz n : Nat} {cs : List V} (h : Bt S w v esz n cs) : Buf S w v esz n cs := by
  cases h with
  | nil => exact .nil
  | blk hS hb hx hl he hn hs => exact .blk (r := 0) (rest := []) hS hb (by rw [List.append_nil]; exact hx) hl (by simp) he (by omega) hs
theorem Bt.mono {S S' : Nat → Prop} {w : AW} {v : V} {esz n : Nat} {cs : List V} (h : Bt S w v esz n cs) (hs : ∀ x, S x → S' x) : Bt S' w v esz n cs := by
  cases h with
  | nil => exact .nil
  | blk hS hb hx hl he hn hsh => exact .blk (hs _ hS) hb hx hl he hn (hsh.mono hs)
theorem Bt.frm {S T : Nat → Prop} {w w' : AW} {v : V} {esz n : Nat} {cs : List V} (h : Bt S w v esz n cs) (hf : Frm T w w') (hd : ∀ x, S x → ¬ T x) : Bt S w' v esz n cs := by
  cases h with
  | nil => exact .nil
  | blk hS hb hx hl he hn hsh => exact .blk hS (Nat.lt_of_lt_of_le hb hf.next) ((hf.heap _ hb (hd _ hS)).trans hx) hl he hn (hsh.frm hf hd)
theorem Bt.len {S : Nat → Prop} {w : AW} {v : V} {esz n : Nat} {cs : List V} (h : Bt S w v esz n cs) : cs.length = n * esz := h.buf.len
theorem Bt.rd {S : Nat → Prop} {w : AW} {v : V} {esz n : Nat} {cs : List V} (h : Bt S w v esz n cs) : Rd S w v esz n cs := h.buf.rd
theorem Bt.lenV {S : Nat → Prop} {w : AW} {v : V} {esz n : Nat} {cs : List V} (h : Bt S w v esz n cs) : lenV v = some n := h.buf.lenV
theorem Bt.one {S : Nat → Prop} {w : AW} {v : V} {esz n : Nat} {cs : List V} (h : Bt S w v esz n cs) : v.one = true ∧ v.cells = [v] := by cases h <;> exact ⟨rfl, rfl⟩
theorem Bt.inv {S : Nat → Prop} {w : AW} {v : V} {esz n : Nat} {cs : List V} (h : Bt S w v esz n cs) : (v = .nilslice ∧ n = 0 ∧ cs = []) ∨ ∃ b, v = .slice b 0 n (.upTo esz) ∧ S b ∧ b < w.next := h.buf.inv
/-- some more elements. -/
theorem Bt.addN {S : Nat → Prop} {w : AW} {v : V} {esz n k bytes : Nat} {cs news : List V} (h : Bt S w v esz n cs) (he : 0 < esz) (hl : news.length = k * esz) (h1 : allOne news = true) (hb : (n + k) * bytes ≤ 70368744177664) (hb' : n + k ≤ 70368744177664) :
    ∃ v' w' S', w.appendV esz bytes v k news = some (v', w') ∧ Bt S' w' v' esz (n + k) (cs ++ news) ∧ Frm S w w' ∧ Grown S S' w w' := by
  cases k with
  | zero =>
    have : news = [] := List.length_eq_zero_iff.1 (by simpa using hl)
    subst this
    refine ⟨v, w, fun x => S x ∧ x < w.next, ?_, ?_, Frm.refl _, fun b hb => ⟨hb.2, .inl hb.1⟩⟩
    · cases h <;> rfl
    · rw [List.append_nil, Nat.add_zero]
      cases h with
      | nil => exact .nil
      | blk hS hbw hx hlen he' hn hs =>
        refine .blk ⟨hS, hbw⟩ hbw hx hlen he' hn ?_
        rcases hs with rfl | rfl | ⟨f, F, rfl, q1, q2, q3⟩
        · exact .inl rfl
        · exact .inr (.inl rfl)
        · exact .inr (.inr ⟨f, F, rfl, ⟨q1, q2⟩, q2, q3⟩)
  | succ k =>
    cases h with
    | nil =>
      refine ⟨.slice w.next 0 (k + 1) (.upTo esz), w.fresh news, fun b => b = w.next, ?_, ?_, Frm.new _ _, ?_⟩
      · simp only [AW.appendV]; rw [if_pos ⟨by simpa using hb, by omega⟩]
      · rw [Nat.zero_add]; exact .blk rfl (Nat.lt_succ_self _) T.get_put_same (by simpa using hl) he (by omega) (.inl rfl)
      · rintro b rfl; exact ⟨Nat.lt_succ_self _, .inr (Nat.le_refl _)⟩
    | @blk b _ _ _ sh hS hbw hx hlen he' hn hs =>
      have happ : w.appendV esz bytes (.slice b 0 n (.upTo esz)) (k + 1) news = w.appendUp esz b 0 n (k + 1) news := if_pos ⟨rfl, hb, hb', h1, he⟩
      rw [happ]
      have hbeq : Nat.beq (0 + n * esz) cs.length = true := by rw [Nat.zero_add, hlen, Nat.beq_refl]
      have fam : ∀ (u : AW) (f : Nat) (F : Fam), w.next ≤ u.next → Frm S w u → u.heap.get b = some (.cells cs (.fam f)) → (S f ∨ w.next ≤ f) → f < u.next → b < u.next → u.fams.get f = some F → F.last = b → F.floor ≤ u.next → u.alive b (.fam f) = true →
          ∃ v' w' S', u.appendFam esz b 0 n (k + 1) news = some (v', w') ∧ Bt S' w' v' esz (n + (k + 1)) (cs ++ news) ∧ Frm S w w' ∧ Grown S S' w w' := by
        intro u f F hle hfu hx hSf hfl hbu hF hlast hflo hal
        refine ⟨.slice u.next 0 (n + (k + 1)) (.upTo esz), u.grow b f F (cs.drop 0 ++ news), fun x => x = u.next ∨ x = f, ?_, ?_, ?_, ?_⟩
        · simp only [AW.appendFam, hx, hal, hF, hbeq]
        · have hg : (u.grow b f F (cs.drop 0 ++ news)).fams.get f = some ⟨F.keep, F.floor, u.next⟩ := by
            simp only [AW.grow, T.get_putk, if_true, hlast, Nat.beq_refl]
          refine .blk (sh := .fam f) (.inl rfl) (Nat.lt_succ_self _) ?_ ?_ he (by omega) (.inr (.inr ⟨f, ⟨F.keep, F.floor, u.next⟩, rfl, .inr rfl, Nat.lt_succ_of_lt hfl, hg, rfl, Nat.le_succ_of_le hflo, ?_⟩))
          · simp only [AW.grow, T.get_putk, if_true, List.drop_zero]
          · rw [List.length_append, hlen, hl, Nat.add_mul n]
          · simp only [AW.alive, hg, Bool.or_eq_true]
            exact .inr (Nat.ble_eq_true_of_le hflo)
        · refine hfu.trans (T := fun x => x = f ∨ u.next ≤ x) ⟨Nat.le_succ _, fun c hc hn => T.get_put_ne (by omega), fun c hc hn => T.get_put_ne fun e => hn (.inl e)⟩ (fun x hx h => h) ?_
          rintro x hx (rfl | h)
          · rcases hSf with h | h
            · exact h
            · omega
          · omega
        · rintro x (rfl | rfl)
          · exact ⟨Nat.lt_succ_self _, .inr hle⟩
          · exact ⟨Nat.lt_succ_of_lt hfl, hSf⟩
      have fnd : sh = .own ∨ sh = .lax → ∃ v' w' S', (w.found b cs).appendFam esz b 0 n (k + 1) news = some (v', w') ∧ Bt S' w' v' esz (n + (k + 1)) (cs ++ news) ∧ Frm S w w' ∧ Grown S S' w w' := by
        intro _
        refine fam (w.found b cs) w.next ⟨b, w.next + 1, b⟩ (Nat.le_succ _) ⟨Nat.le_succ _, fun c hc hn => T.get_put_ne fun e => hn (e ▸ hS), fun c hc hn => T.get_put_ne (by omega)⟩ T.get_put_same (.inr (Nat.le_refl _)) (Nat.lt_succ_self _) (Nat.lt_succ_of_lt hbw) T.get_put_same rfl (Nat.le_refl _) ?_
        simp only [AW.alive, AW.found, T.get_putk, if_true, Nat.beq_refl, Bool.true_or]
      simp only [AW.appendUp, hx, hbeq]
      rcases hs with rfl | rfl | ⟨f, F, rfl, g1, g2, g3, g4, g6, g5⟩
      · exact fnd (.inl rfl)
      · exact fnd (.inr rfl)
      · exact fam w f F (Nat.le_refl _) (Frm.refl _) hx (.inl g1) g2 hbw g3 g4 g6 g5
theorem Bt.push {S : Nat → Prop} {w : AW} {v : V} {esz n bytes : Nat} {cs news : List V} (h : Bt S w v esz n cs) (hS : ∀ b, S b → b < w.next) (he : 0 < esz) (hl : news.length = esz) (h1 : allOne news = true) (hb : (n + 1) * bytes ≤ 70368744177664) (hb' : n + 1 ≤ 70368744177664) :
    ∃ v' w' S', (w.fresh news).appendV esz bytes v 1 news = some (v', w') ∧ Bt S' w' v' esz (n + 1) (cs ++ news) ∧ Frm S w w' ∧ Grown S S' w w' := by
  have hx : Frm (fun _ => False) w (w.fresh news) := Frm.new _ _
  obtain ⟨v', w', S', h2, h3, h4, h5⟩ := (h.frm hx fun _ _ h => h).addN (news := news) (k := 1) (bytes := bytes) he (by omega) h1 hb hb'
  refine ⟨v', w', S', h2, h3, hx.trans h4 (fun _ _ h => h.elim) fun _ _ h => h, fun b hb => ?_⟩
  obtain ⟨q1, q2⟩ := h5 b hb
  exact ⟨q1, q2.imp id fun h => Nat.le_trans hx.next h⟩
end Go.AE

set_option linter.unusedVariables false
set_option linter.unusedSectionVars false
set_option linter.unusedSimpArgs false
open Go.RowKit
namespace Go.AE
variable [Globs]
section
def keysS : List (V × V × Nat) → Option (List (List Nat))
  | [] => some []
  | (.str k, _, _) :: es => match keysS es with
    | some l => some (k :: l)
    | none => none
  | _ => none
def nodupL : List (List Nat) → Bool
  | [] => true
  | x :: l => match l.any (eqL x) with
    | true => false
    | false => nodupL l
def stampsN : List (V × V × Nat) → List Nat
  | [] => []
  | e :: es => e.2.2 :: stampsN es
def insL (x : List Nat) : List (List Nat) → List (List Nat)
  | [] => [x]
  | y :: l => match lessL y x with
    | true => y :: insL x l
    | false => x :: y :: l
def sortL : List (List Nat) → List (List Nat)
  | [] => []
  | x :: l => insL x (sortL l)
def shortL : List (List Nat) → Bool
  | [] => true
  | x :: l => Nat.ble x.length 1000000 && shortL l
def strsV : List (List Nat) → List V
  | [] => []
  | x :: l => .str x :: strsV l
def sortedS (g : Nat) (args : List V) (aw : AW) : Option (V × AW) :=
  match args with
  | [.func (.func g') [] [.ptr b 0]] => match Nat.beq g' g, aw.heap.get b with
    | true, some (.cells [.map mb] .own) => match aw.heap.get mb with
      | some (.map es ck) => match keysS es with
        | some ks => match allOld ck es && nodupN (stampsN es) && nodupL ks && shortL ks && Nat.ble es.length 1000000 with
          | true => match sortL ks with
            | [] => some (.nilslice, aw)
            | l => some (.slice aw.next 0 l.length (.upTo 1), aw.fresh (strsV l))
          | false => none
        | none => none
      | _ => none
    | _, _ => none
  | _ => none
/-- what the library's text comes to. -/
def SortedKeysS (P : Program) (f g : Nat) : Prop := ∀ (w : World) (Bm b : Nat) (es : Array MapEntry) (clock : Nat), Bm < w.heap.size → w.cell? ⟨Bm, 0, none⟩ = some (.map (some b)) → w.heap[b]? = some (.map es clock) → Go.MapKept.Stamped es clock → es.size ≤ 1000000 →
  (∀ x ∈ es.toList, ∃ s, x.key = .string s ∧ s.size ≤ 1000000) →
  Calls P f #[.func (.func g) #[] #[.pointer (some ⟨Bm, 0, none⟩)]] w fun e w' => ∃ (v : Value) (ss : List (List UInt8)) (t : TypeId), e = .returned v ∧ ss.Perm (es.toList.map fun x => match x.key with | .string s => s.data.toList | _ => []) ∧
    w'.ownsRow w.heap.size t 1 v ss.length ((ss.mergeSort Go.leB).map Go.Proofs.encStr) ∧ (v = .slice none 0 0 ↔ ss = []) ∧ Below w.heap.size w w'
theorem lessL_irrefl : ∀ (a : List Nat), lessL a a = false
  | [] => rfl
  | x :: l => by
    have h1 : Nat.blt x x = false := by rw [natBlt]; simp
    have h2 : Nat.beq x x = true := Nat.beq_refl x
    simp only [lessL, h1, h2, lessL_irrefl l]; rfl
theorem natBlt' (a b : Nat) : Nat.blt a b = decide (a < b) := natBlt
theorem leB_less : ∀ (a b : List UInt8), Go.leB a b = !lessL (b.map UInt8.toNat) (a.map UInt8.toNat)
  | [], b => by
    cases b <;> simp [Go.leB, lessL]
  | x :: a, [] => by
    simp [Go.leB, lessL]
  | x :: a, y :: b => by
    have ih := leB_less a b
    simp only [Go.leB, List.map_cons, lessL, List.cons_le_cons_iff] at ih ⊢
    by_cases h1 : x < y
    · have e1 : Nat.blt y.toNat x.toNat = false := by rw [natBlt']; simp; exact Nat.le_of_lt (UInt8.lt_iff_toNat_lt.1 h1)
      have e2 : Nat.beq y.toNat x.toNat = false := by
        cases hb : Nat.beq y.toNat x.toNat with
        | false => rfl
        | true => have := Nat.eq_of_beq_eq_true hb; have := UInt8.lt_iff_toNat_lt.1 h1; omega
      simp [h1, e1, e2]
    · by_cases h2 : x = y
      · subst h2
        have e1 : Nat.blt x.toNat x.toNat = false := by rw [natBlt']; simp
        have e2 : Nat.beq x.toNat x.toNat = true := Nat.beq_refl _
        simp only [e1, e2, Bool.false_or, Bool.true_and, ← ih]
        simp [h1]
      · have h3 : y.toNat < x.toNat := by
          have : ¬ x.toNat < y.toNat := fun h => h1 (UInt8.lt_iff_toNat_lt.2 h)
          have : x.toNat ≠ y.toNat := fun h => h2 (UInt8.toNat.inj h)
          omega
        have e1 : Nat.blt y.toNat x.toNat = true := by rw [natBlt']; simpa using h3
        simp [h1, h2, e1]
theorem lessL_trans : ∀ {a b c : List Nat}, lessL a b = true → lessL b c = true → lessL a c = true
  | [], b, [], h1, h2 => by cases b <;> simp [lessL] at h1 h2
  | [], b, z :: c, h1, h2 => by simp [lessL]
  | x :: a, [], c, h1, h2 => by simp [lessL] at h1
  | x :: a, y :: b, [], h1, h2 => by simp [lessL] at h2
  | x :: a, y :: b, z :: c, h1, h2 => by
    simp only [lessL, Bool.or_eq_true, Bool.and_eq_true, natBlt', decide_eq_true_eq, Nat.beq_eq] at h1 h2 ⊢
    rcases h1 with h1 | ⟨rfl, h1⟩
    · rcases h2 with h2 | ⟨rfl, h2⟩
      · exact .inl (by omega)
      · exact .inl h1
    · rcases h2 with h2 | ⟨rfl, h2⟩
      · exact .inl h2
      · exact .inr ⟨rfl, lessL_trans h1 h2⟩
theorem lessL_tri : ∀ {a b : List Nat}, lessL a b = false → lessL b a = false → a = b
  | [], [], _, _ => rfl
  | [], y :: b, h, _ => by simp [lessL] at h
  | x :: a, [], _, h => by simp [lessL] at h
  | x :: a, y :: b, h1, h2 => by
    simp only [lessL, Bool.or_eq_false_iff, natBlt', decide_eq_false_iff_not] at h1 h2
    have hxy : x = y := by omega
    subst hxy
    have e : Nat.beq x x = true := Nat.beq_refl _
    have g1 := h1.2
    have g2 := h2.2
    rw [e, Bool.true_and] at g1 g2
    rw [lessL_tri g1 g2]
/-- stands not behind. -/
def leL (a b : List Nat) : Prop := lessL b a = false
theorem leL_trans {a b c : List Nat} (h1 : leL a b) (h2 : leL b c) : leL a c := by
  unfold leL at *
  cases h : lessL c a with
  | false => rfl
  | true =>
    cases hb : lessL b c with
    | true => rw [lessL_trans hb h] at h1; cases h1
    | false => rw [lessL_tri h2 hb] at h; rw [h] at h1; cases h1
theorem insL_perm (x : List Nat) : ∀ (l : List (List Nat)), (insL x l).Perm (x :: l)
  | [] => .refl _
  | y :: l => by
    simp only [insL]
    split
    · exact ((insL_perm x l).cons y).trans (.swap x y l)
    · exact .refl _
theorem sortL_perm : ∀ (l : List (List Nat)), (sortL l).Perm l
  | [] => .refl _
  | x :: l => (insL_perm x _).trans ((sortL_perm l).cons x)
theorem insL_sorted (x : List Nat) : ∀ {l : List (List Nat)}, l.Pairwise leL → (insL x l).Pairwise leL
  | [], _ => by simp [insL]
  | y :: l, h => by
    simp only [insL]
    rw [List.pairwise_cons] at h
    cases hxy : lessL y x with
    | true =>
      simp only []
      refine List.pairwise_cons.2 ⟨fun z hz => ?_, insL_sorted x h.2⟩
      rcases List.mem_cons.1 ((insL_perm x l).mem_iff.1 hz) with rfl | hz
      · unfold leL
        cases h2 : lessL z y with
        | false => rfl
        | true => have := lessL_trans hxy h2; rw [lessL_irrefl] at this; cases this
      · exact h.1 z hz
    | false =>
      simp only []
      refine List.pairwise_cons.2 ⟨fun z hz => ?_, List.pairwise_cons.2 h⟩
      rcases List.mem_cons.1 hz with rfl | hz
      · exact hxy
      · exact leL_trans hxy (h.1 z hz)
theorem sortL_sorted : ∀ (l : List (List Nat)), (sortL l).Pairwise leL
  | [] => .nil
  | x :: l => insL_sorted x (sortL_sorted l)
def natsOf (l : List UInt8) : List Nat := l.map UInt8.toNat
theorem sortL_eq {ss : List (List UInt8)} {ks : List (List Nat)} (h : (ss.map natsOf).Perm ks) : sortL ks = (ss.mergeSort Go.leB).map natsOf := by
  have tr : ∀ a b c : List UInt8, leB a b = true → leB b c = true → leB a c = true := fun a b c h1 h2 => by simp only [leB, decide_eq_true_eq] at *; exact List.le_trans h1 h2
  have to : ∀ a b : List UInt8, (leB a b || leB b a) = true := fun a b => by simp only [leB, Bool.or_eq_true, decide_eq_true_eq]; exact List.le_total a b
  refine List.Perm.eq_of_pairwise (le := leL) (fun a b _ _ h1 h2 => lessL_tri h2 h1) (sortL_sorted ks) ?_ ?_
  · rw [List.pairwise_map]
    refine (List.pairwise_mergeSort tr to ss).imp fun {a b} hab => ?_
    rw [leB_less] at hab
    simpa [leL, natsOf] using hab
  · exact ((sortL_perm ks).trans h.symm).trans ((List.mergeSort_perm ss leB).symm.map _)
theorem keysS_spec {m : Map} : ∀ {es : List (V × V × Nat)} {l : List MapEntry} {ks : List (List Nat)}, ER m es l → keysS es = some ks → shortL ks = true → (∀ x ∈ l, ∃ s, x.key = .string s ∧ s.size ≤ 1000000) ∧ (l.map fun x => match x.key with | .string s => s.data.toList | _ => []).map natsOf = ks
  | [], l, ks, h, hk, _ => by cases h; cases hk; simp
  | (k, v, n) :: es, l, ks, h, hk, hs => by
    obtain ⟨e, l', rfl, h1, h2, h3, h4⟩ := h
    cases k <;> simp only [keysS] at hk <;> try (cases hk; done)
    rename_i k
    split at hk
    · rename_i q hq
      cases hk
      simp only [shortL, Bool.and_eq_true] at hs
      obtain ⟨i1, i2⟩ := keysS_spec h4 hq hs.2
      obtain ⟨s, q1, q2⟩ := h1
      have hlen := Nat.le_of_ble_eq_true hs.1
      refine ⟨fun x hx => ?_, ?_⟩
      · rcases List.mem_cons.1 hx with rfl | hx
        · refine ⟨s, q1, ?_⟩
          have : s.size = k.length := by rw [← q2]; simp [strL]
          omega
        · exact i1 x hx
      · simp only [List.map_cons, q1]
        rw [i2]
        congr 1
    · cases hk
theorem stampsN_spec {m : Map} : ∀ {es : List (V × V × Nat)} {l : List MapEntry}, ER m es l → l.map (·.born) = stampsN es
  | [], l, h => by cases h; rfl
  | (k, v, n) :: es, l, h => by
    obtain ⟨e, l', rfl, h1, h2, h3, h4⟩ := h
    rw [List.map_cons, stampsN_spec h4, h3]; rfl
theorem nodupN_iff : ∀ {l : List Nat}, nodupN l = true → l.Nodup
  | [], _ => .nil
  | x :: l, h => by
    simp only [nodupN, Bool.and_eq_true, Bool.not_eq_true'] at h
    refine List.nodup_cons.2 ⟨fun hm => ?_, nodupN_iff h.2⟩
    rw [memN_iff.2 hm] at h; cases h.1
theorem nodupL_iff : ∀ {l : List (List Nat)}, nodupL l = true → l.Nodup
  | [], _ => .nil
  | x :: l, h => by
    simp only [nodupL] at h
    split at h
    · cases h
    · rename_i ha
      refine List.nodup_cons.2 ⟨fun hm => ?_, nodupL_iff h⟩
      have : l.any (eqL x) = true := List.any_eq_true.2 ⟨x, hm, eqL_iff.2 rfl⟩
      rw [this] at ha; cases ha
theorem strsV_len : ∀ (l : List (List Nat)), (strsV l).length = l.length
  | [] => rfl
  | x :: l => by simp [strsV, strsV_len l]
theorem strsV_get : ∀ {l : List (List Nat)} {i : Nat} {x : V}, (strsV l)[i]? = some x → ∃ k, l[i]? = some k ∧ x = .str k
  | [], i, x, h => by simp [strsV] at h
  | k :: l, 0, x, h => by simp [strsV] at h; exact ⟨k, by simp, h.symm⟩
  | k :: l, i + 1, x, h => by
    obtain ⟨k', h1, h2⟩ := strsV_get (l := l) (i := i) (x := x) (by simpa [strsV] using h)
    exact ⟨k', by simpa using h1, h2⟩
theorem sortedS_ok {P : Program} {f g : Nat} (hS : SortedKeysS P f g) {args : List V} {aw : AW} {v : V} {aw' : AW} (h : sortedS g args aw = some (v, aw')) (w : World) (m : Map) (base : Nat) (args' : Array Value) (hR : R aw w m base) (hargs : VRs m args args'.toList) :
    Calls P f args' w fun r w' => ∃ v' m', r = .returned v' ∧ VR m' v v' ∧ R aw' w' m' base ∧ Goes aw aw' w w' m m' := by
  unfold sortedS at h
  split at h
  · rename_i g' b
    split at h
    · rename_i mb hg hld
      have hgg := Nat.eq_of_beq_eq_true hg
      subst hgg
      split at h
      · rename_i es ck hmb
        split at h
        · rename_i ks hks
          split at h
          · rename_i hb
            simp only [Bool.and_eq_true] at hb
            obtain ⟨⟨⟨⟨c1, c2⟩, c3⟩, c4⟩, c5⟩ := hb
            obtain ⟨x, r1, e1, hx, rfl⟩ := hargs
            obtain ⟨f', c', rfl, hf', hc'⟩ := hx
            obtain rfl : f' = #[] := by cases f'; cases hf'; rfl
            obtain ⟨p, r2, e2, hp, rfl⟩ := hc'
            obtain rfl : c' = #[p] := by cases c'; simp_all
            obtain ⟨e, hm, rfl⟩ := hp
            obtain rfl : args' = #[.func (.func g') #[] #[.pointer (some ⟨e.c, e.s + 0, none⟩)]] := by cases args'; simp_all
            obtain ⟨cur, ty, lo, hi, p1, p2, p3, p4, p5⟩ := hR.blk b e _ hm hld rfl
            have hs0 : e.s = 0 := by
              rcases p4 with h | h | h
              · cases h
              · exact h.2 rfl
              · exact absurd rfl h.1
            obtain ⟨y, hy1, eb, hmb', rfl⟩ := p5 0 _ rfl
            obtain ⟨es', k1, k2⟩ := hR.blk mb eb _ hmb' hmb
            rw [hs0] at hy1 ⊢
            have hcell : w.cell? ⟨e.c, 0, none⟩ = some (.map (some eb.c)) := by simp only [World.cell?, p1]; simpa using hy1
            obtain ⟨g1, g2⟩ := keysS_spec k2 hks c4
            have hlen := k2.length
            have hst : Go.MapKept.Stamped es' ck := by
              refine ⟨ER.old k2 c1, ?_, ?_⟩
              · rw [stampsN_spec k2]; exact nodupN_iff c2
              · have hnd : ((es'.toList.map fun x => match x.key with | .string s => s.data.toList | _ => []).map natsOf).Nodup := by rw [g2]; exact nodupL_iff c3
                rw [List.map_map] at hnd
                unfold List.Nodup at hnd ⊢
                rw [List.pairwise_map] at hnd ⊢
                refine hnd.imp fun {a b} hne he => hne ?_
                simp only [Function.comp, he]
            refine (hS w e.c eb.c es' ck (hR.lt b e hm).2 hcell k1 hst (by have := Nat.le_of_ble_eq_true c5; rw [← hlen] at this; simpa using this) g1).mono ?_
            rintro r w' ⟨v', ss, t, rfl, hp, hrow, hnil, hbel⟩
            have hsort : sortL ks = (ss.mergeSort leB).map natsOf := sortL_eq (by rw [← g2]; exact hp.map _)
            have hmlen : (ss.mergeSort leB).length = ss.length := (List.mergeSort_perm ss leB).length_eq
            split at h
            · rename_i hsn
              cases h
              have : ss = [] := by
                have h1 : (sortL ks).length = 0 := by rw [hsn]; rfl
                rw [hsort, List.length_map, hmlen] at h1
                exact List.length_eq_zero_iff.1 h1
              obtain ⟨q1, q2⟩ := hR.below hbel
              exact ⟨v', m, rfl, hnil.2 this, q1, q2⟩
            · rename_i l hsn
              cases h
              have hll : (sortL ks).length = ss.length := by rw [hsort, List.length_map, hmlen]
              have hpos : 0 < ss.length := by
                rw [← hll]
                cases hq : sortL ks with
                | nil => exact absurd hq hsn
                | cons _ _ => simp
              rcases hrow.2 with ⟨_, h0⟩ | ⟨gb, cap, cur', rfl, b1, b2, b3, b4, b5, b6⟩
              · omega
              · have hcr : CR m (strsV (sortL ks)) 0 cur' := by
                  intro i x hx
                  obtain ⟨k, hk, rfl⟩ := strsV_get hx
                  rw [hsort, List.getElem?_map] at hk
                  cases hz : (ss.mergeSort leB)[i]? with
                  | none => rw [hz] at hk; simp at hk
                  | some z =>
                    rw [hz] at hk
                    simp only [Option.map_some, Option.some.injEq] at hk
                    have h1 : ((ss.mergeSort leB).map Go.Proofs.encStr)[i]? = some (Go.Proofs.encStr z) := by rw [List.getElem?_map, hz]; rfl
                    rw [← b6, List.getElem?_take] at h1
                    split at h1
                    · refine ⟨_, by rw [Nat.zero_add]; simpa using h1, _, rfl, ?_⟩
                      rw [← hk]; simp [strL, natsOf]
                    · cases h1
                obtain ⟨q1, q2⟩ := hR.take hbel b1 b2 rfl hcr (by rw [strsV_len, hll]; omega)
                refine ⟨_, _, rfl, ⟨_, Map.set_same _ _ _, _, cap, by rw [hll], by rw [hll]; exact b3, .inl ⟨rfl, by simp; omega⟩⟩, q1, q2⟩
          · cases h
        · cases h
      · cases h
    · cases h
  · cases h
end
end Go.AE

/- The seat's table, with slices.Sorted(maps.Keys(m)) told by its contract: the contracts are the library's, over whatever program; their numbers at this seat stand here. -/
set_option linter.unusedVariables false
set_option maxRecDepth 100000
namespace Go.Proofs.YtgmnhlnegflbbaaGreatDoor
open Go.RowKit Go.Maps Go.Sort Go.Shelf
def zKeys_ren : Go.Shelf.Ren := ⟨fun | 10 => 73 | n => n, fun | 33 => 34 | 23 => 57 | 0 => 0 | 4 => 4 | 26 => 9 | 3 => 65 | n => n, fun | n => n⟩
theorem zKeys : Go.Proofs.SlLaysZ.n10 Tryz.prog zKeys_ren where
  mixed := by kernel_rfl
  f10 := ⟨"maps.Keys[map[string]*delphi/relation.Set,string,*delphi/relation.Set]$1", by decide, Tryz.func73.trans (congrArg some (by kernel_rfl))⟩
  t0 := Tryz.underlying0
  a0 := Tryz.isAgg0
  z0 := Tryz.sizeOf0
  v0 := Tryz.zeroValue0
  t4 := Tryz.underlying4
  a4 := Tryz.isAgg4
  z4 := Tryz.sizeOf4
  v4 := Tryz.zeroValue4
  t23 := Tryz.underlying57
  a23 := Tryz.isAgg57
  z23 := Tryz.sizeOf57
  v23 := Tryz.zeroValue57
  t26 := Tryz.underlying9
  a26 := Tryz.isAgg9
  z26 := Tryz.sizeOf9
  v26 := Tryz.zeroValue9
  t33 := Tryz.underlying34
  a33 := Tryz.isAgg34
  z33 := Tryz.sizeOf34
  v33 := Tryz.zeroValue34
def zSorted_ren : Go.Shelf.Ren := ⟨fun | 6 => 32 | 8 => 71 | 9 => 72 | 11 => 117 | 13 => 76 | 12 => 118 | 23 => 129 | 24 => 130 | 14 => 156 | 15 => 157 | 16 => 158 | 17 => 159 | 18 => 160 | 19 => 161 | 20 => 162 | 21 => 163 | 22 => 164 | 25 => 201 | 26 => 166 | 27 => 167 | 28 => 202 | 29 => 203 | 30 => 204 | 31 => 223 | n => n, fun | 26 => 9 | 28 => 63 | 24 => 27 | 0 => 0 | 3 => 3 | 37 => 127 | 48 => 179 | 50 => 181 | 4 => 4 | 40 => 173 | 39 => 172 | 45 => 131 | 5 => 5 | 9 => 9 | 51 => 218 | 55 => 222 | 57 => 254 | 58 => 206 | 33 => 34 | n => n, fun | n => n⟩
theorem zSorted : Go.Proofs.SlLaysZ.n6 Tryz.prog zSorted_ren where
  mixed := by kernel_rfl
  f6 := ⟨"slices.Sorted[string]", by decide, Tryz.func32.trans (congrArg some (by kernel_rfl))⟩
  f8 := ⟨"slices.Collect[string]", by decide, Tryz.func71.trans (congrArg some (by kernel_rfl))⟩
  f11 := ⟨"slices.AppendSeq[[]string,string]", by decide, Tryz.func117.trans (congrArg some (by kernel_rfl))⟩
  t0 := Tryz.underlying0
  a0 := Tryz.isAgg0
  z0 := Tryz.sizeOf0
  v0 := Tryz.zeroValue0
  t24 := Tryz.underlying27
  a24 := Tryz.isAgg27
  z24 := Tryz.sizeOf27
  v24 := Tryz.zeroValue27
  t26 := Tryz.underlying9
  a26 := Tryz.isAgg9
  z26 := Tryz.sizeOf9
  v26 := Tryz.zeroValue9
  t28 := Tryz.underlying63
  a28 := Tryz.isAgg63
  z28 := Tryz.sizeOf63
  v28 := Tryz.zeroValue63
  i26 := by kernel_rfl
def zSort_ren : Go.Shelf.Ren := ⟨fun | 6 => 72 | 8 => 76 | 9 => 118 | 19 => 129 | 20 => 130 | 21 => 156 | 22 => 157 | 23 => 158 | 24 => 159 | 25 => 160 | 26 => 161 | 27 => 162 | 28 => 163 | 29 => 164 | 36 => 201 | 31 => 166 | 32 => 167 | 37 => 202 | 38 => 203 | 39 => 204 | 41 => 223 | n => n, fun | 27 => 27 | 29 => 9 | 3 => 3 | 32 => 127 | 26 => 27 | 0 => 0 | 44 => 179 | 46 => 181 | 4 => 4 | 36 => 173 | 35 => 172 | 41 => 131 | 5 => 5 | 9 => 9 | 53 => 218 | 57 => 222 | 63 => 254 | 64 => 206 | n => n, fun | n => n⟩
theorem zSort : Go.Proofs.SlLaysM.n6 Tryz.prog zSort_ren where
  mixed := by kernel_rfl
  f6 := ⟨"slices.Sort[[]string,string]", by decide, Tryz.func72.trans (congrArg some (by kernel_rfl))⟩
  f8 := Tryz.func76.trans (congrArg some (by kernel_rfl))
  f9 := ⟨"slices.pdqsortOrdered[string]", by decide, Tryz.func118.trans (congrArg some (by kernel_rfl))⟩
  f19 := Tryz.func129.trans (congrArg some (by kernel_rfl))
  f20 := Tryz.func130.trans (congrArg some (by kernel_rfl))
  f21 := ⟨"slices.insertionSortOrdered[string]", by decide, Tryz.func156.trans (congrArg some (by kernel_rfl))⟩
  f22 := ⟨"slices.heapSortOrdered[string]", by decide, Tryz.func157.trans (congrArg some (by kernel_rfl))⟩
  f23 := ⟨"slices.breakPatternsOrdered[string]", by decide, Tryz.func158.trans (congrArg some (by kernel_rfl))⟩
  f24 := ⟨"slices.choosePivotOrdered[string]", by decide, Tryz.func159.trans (congrArg some (by kernel_rfl))⟩
  f25 := ⟨"slices.reverseRangeOrdered[string]", by decide, Tryz.func160.trans (congrArg some (by kernel_rfl))⟩
  f26 := ⟨"slices.partialInsertionSortOrdered[string]", by decide, Tryz.func161.trans (congrArg some (by kernel_rfl))⟩
  f27 := ⟨"cmp.Less[string]", by decide, Tryz.func162.trans (congrArg some (by kernel_rfl))⟩
  f28 := ⟨"slices.partitionEqualOrdered[string]", by decide, Tryz.func163.trans (congrArg some (by kernel_rfl))⟩
  f29 := ⟨"slices.partitionOrdered[string]", by decide, Tryz.func164.trans (congrArg some (by kernel_rfl))⟩
  f31 := Tryz.func166.trans (congrArg some (by kernel_rfl))
  f32 := Tryz.func167.trans (congrArg some (by kernel_rfl))
  f36 := ⟨"slices.siftDownOrdered[string]", by decide, Tryz.func201.trans (congrArg some (by kernel_rfl))⟩
  f37 := ⟨"slices.medianAdjacentOrdered[string]", by decide, Tryz.func202.trans (congrArg some (by kernel_rfl))⟩
  f38 := ⟨"slices.medianOrdered[string]", by decide, Tryz.func203.trans (congrArg some (by kernel_rfl))⟩
  f39 := ⟨"cmp.isNaN[string]", by decide, Tryz.func204.trans (congrArg some (by kernel_rfl))⟩
  f41 := ⟨"slices.order2Ordered[string]", by decide, Tryz.func223.trans (congrArg some (by kernel_rfl))⟩
  t0 := Tryz.underlying0
  a0 := Tryz.isAgg0
  z0 := Tryz.sizeOf0
  v0 := Tryz.zeroValue0
  t3 := Tryz.underlying3
  a3 := Tryz.isAgg3
  z3 := Tryz.sizeOf3
  v3 := Tryz.zeroValue3
  t4 := Tryz.underlying4
  a4 := Tryz.isAgg4
  z4 := Tryz.sizeOf4
  v4 := Tryz.zeroValue4
  t5 := Tryz.underlying5
  a5 := Tryz.isAgg5
  z5 := Tryz.sizeOf5
  v5 := Tryz.zeroValue5
  t9 := Tryz.underlying9
  a9 := Tryz.isAgg9
  z9 := Tryz.sizeOf9
  v9 := Tryz.zeroValue9
  t26 := Tryz.underlying27
  a26 := Tryz.isAgg27
  z26 := Tryz.sizeOf27
  v26 := Tryz.zeroValue27
  t27 := Tryz.underlying27
  a27 := Tryz.isAgg27
  z27 := Tryz.sizeOf27
  v27 := Tryz.zeroValue27
  t29 := Tryz.underlying9
  a29 := Tryz.isAgg9
  z29 := Tryz.sizeOf9
  v29 := Tryz.zeroValue9
  t32 := Tryz.underlying127
  a32 := Tryz.isAgg127
  z32 := Tryz.sizeOf127
  v32 := Tryz.zeroValue127
  t35 := Tryz.underlying172
  a35 := Tryz.isAgg172
  z35 := Tryz.sizeOf172
  v35 := Tryz.zeroValue172
  t36 := Tryz.underlying173
  a36 := Tryz.isAgg173
  z36 := Tryz.sizeOf173
  v36 := Tryz.zeroValue173
  t41 := Tryz.underlying131
  a41 := Tryz.isAgg131
  z41 := Tryz.sizeOf131
  v41 := Tryz.zeroValue131
  t44 := Tryz.underlying179
  a44 := Tryz.isAgg179
  z44 := Tryz.sizeOf179
  v44 := Tryz.zeroValue179
  t46 := Tryz.underlying181
  a46 := Tryz.isAgg181
  z46 := Tryz.sizeOf181
  v46 := Tryz.zeroValue181
  t53 := Tryz.underlying218
  a53 := Tryz.isAgg218
  z53 := Tryz.sizeOf218
  v53 := Tryz.zeroValue218
  t57 := Tryz.underlying222
  a57 := Tryz.isAgg222
  z57 := Tryz.sizeOf222
  v57 := Tryz.zeroValue222
  t63 := Tryz.underlying254
  a63 := Tryz.isAgg254
  z63 := Tryz.sizeOf254
  v63 := Tryz.zeroValue254
  t64 := Tryz.underlying206
  a64 := Tryz.isAgg206
  z64 := Tryz.sizeOf206
  v64 := Tryz.zeroValue206

theorem zSorts (m : Nat) : AnyZ.SortsIn Tryz.prog zSorted_ren Fence.wide m :=
  ⟨fun blk off cap ss W hH hblk hsz => callsIn_wide.2 (AnyM.slices_Sort_string zSort blk off cap ss W hH hblk hsz), fun p cap W => callsIn_wide.2 (AnyM.slices_Sort_string_none zSort p cap W)⟩
theorem sortedKeys : AE.SortedKeysS Tryz.prog 32 73 := by
  intro w Bm b es clock hBm hm hb hst hsz hk
  have hfit : Go.WideElems.Fit (H := Nat) Tryz.prog 9 (fun _ => some (.nil, [])) es clock := ⟨by unfold maxLen; omega, hst, fun x hx => by
    obtain ⟨s, h1, h2⟩ := hk x hx
    refine ⟨(.string s.data.toList, .nil), ?_⟩
    have : keyOf Tryz.prog 9 x.key = some (.string s.data.toList) := by
      rw [h1]; simp [keyOf, mapKey, Tryz.underlying9]; unfold maxLen; omega
    simp [Go.WideElems.rd, this]⟩
  have hrg : ∀ x ∈ es.toList, strOf (Go.WideElems.rg (H := Nat) Tryz.prog 9 (fun _ => some (.nil, [])) x).1 = (match x.key with | .string s => s.data.toList | _ => []) := by
    intro x hx
    obtain ⟨s, h1, h2⟩ := hk x hx
    have : keyOf Tryz.prog 9 x.key = some (.string s.data.toList) := by
      rw [h1]; simp [keyOf, mapKey, Tryz.underlying9]; unfold maxLen; omega
    rw [h1] at this ⊢
    simp [Go.WideElems.rg, Go.WideElems.rd, h1, this, strOf]
  have hown : w.ownsMap (H := Nat) Tryz.prog 9 (fun _ => some (.nil, [])) b es.size (.map ((es.toList.map (Go.WideElems.rg Tryz.prog 9 (fun _ => some (.nil, [])))).foldr DataW.insert [])) := ⟨es, clock, hb, hfit, Nat.le_refl _, rfl⟩
  have hperm : (strKeys (H := Nat) (.map ((es.toList.map (Go.WideElems.rg Tryz.prog 9 (fun _ => some (.nil, [])))).foldr DataW.insert []))).Perm (es.toList.map fun x => match x.key with | .string s => s.data.toList | _ => []) := by
    show (List.map _ _).Perm _
    refine ((Go.WideShapes.sorted_perm _).map _).trans ?_
    rw [List.map_map]
    refine .of_eq (List.map_congr_left fun x hx => hrg x hx)
  have hsize : Maps.size (H := Nat) (.map ((es.toList.map (Go.WideElems.rg Tryz.prog 9 (fun _ => some (.nil, [])))).foldr DataW.insert [])) = es.size := by
    show List.length _ = _
    rw [(Go.WideShapes.sorted_perm _).length_eq]; simp
  have hseq := AnyZ.keys_gives zKeys Fence.wide 2 trivial rfl (by omega) Bm b es.size _ w hBm hm hown
  have cS := AnyZ.sorted_in zSorted Fence.wide 5 trivial trivial trivial trivial rfl (by omega) (zSorts _) (enters_of Tryz.func72 (by kernel_rfl) rfl) 73 #[.pointer (some ⟨Bm, 0, none⟩)] trivial (enters_of Tryz.func73 (by kernel_rfl) rfl) _ _ (by rw [hsize]; unfold maxLen; omega) (by rw [hsize]; omega) w hseq
  change CallsIn _ _ Tryz.prog 32 _ _ _ at cS
  refine (callsIn_wide.1 cS).mono ?_
  rintro e w' ⟨v, ss, rfl, hS, hrow, hnil, hbel⟩
  exact ⟨v, ss, _, rfl, hS.trans hperm, hrow, hnil, hbel⟩
end Go.Proofs.YtgmnhlnegflbbaaGreatDoor

/- The seat's table for the live model's law. -/
set_option linter.unusedVariables false
set_option maxRecDepth 100000
namespace Go.Proofs.YtgmnhlnegflbbaaGreatDoor
open Go.AE
instance noGlobs : Globs := ⟨[]⟩
def clTab (P : Program) : XTab where
  code := (XTab.of P).code
  prim f args aw := match f with
    | 32 => sortedS 73 args aw
    | _ => Option.none
  ext f args aw := match f with
    | 206 => match extCmp args with
      | some v => some (v, aw)
      | Option.none => Option.none
    | _ => Option.none
theorem clTab_ok : TabOK Tryz.prog (clTab Tryz.prog).tab where
  mixed := by kernel_rfl
  code := (XTab.of_ok (P := Tryz.prog) (by kernel_rfl)).code
  prim f args aw v aw' h := by
    simp only [XTab.tab, clTab] at h
    split at h
    · exact ⟨⟨_, Tryz.func32, by kernel_rfl, by decide +kernel⟩, fun w m base args' hR hargs => sortedS_ok sortedKeys h w m base args' hR hargs⟩
    · cases h
  ext f args aw v aw' h w m base args' hR hargs := by
    simp only [XTab.tab, clTab] at h
    split at h
    · split at h
      · rename_i u hu
        cases h
        exact ext_still hR (extCmp_ok Tryz.func206 (by kernel_rfl) (by kernel_rfl) (by kernel_rfl) (by kernel_rfl) hu w m args' hargs)
      · cases h
    · cases h
end Go.Proofs.YtgmnhlnegflbbaaGreatDoor
