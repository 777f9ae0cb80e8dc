/- A part of the proof: HBeg, W1, W2, W3, W4, W5, W6, W7, SArg. -/
import Derived.Test.YtladocoibpljnaaGreatDoorHtI
import Derived.Test.YtladocoibpljnaaGreatDoorHtE
import Derived.HandedShaped
import Derived.Stop.Joined
set_option linter.unusedVariables false
set_option maxRecDepth 100000
namespace Go.Proofs.YtladocoibpljnaaGreatDoor
open Go.AE Go.RowKit
theorem beg : AE.isTrue (xCall (hTab0 Tryz.prog) (xRunK (hTab0 Tryz.prog) 100000) 10 [] AW.start) = true := by kernel_rfl
theorem hT_ok : TabOK Tryz.prog (hTab Tryz.prog).tab := hTab_ok beg
end Go.Proofs.YtladocoibpljnaaGreatDoor
set_option linter.unusedVariables false
set_option linter.unusedSectionVars false
set_option linter.unusedSimpArgs false
namespace Go.AE
variable [Globs]
section
variable {tab : Tab}
def WX (tab : Tab) (c : ACode) (fr : Fr) (aw : AW) (Q : AExit → Fr → AW → Prop) : Prop := ∃ e fr' aw', Exec tab c fr aw e fr' aw' ∧ Q e fr' aw'
def WO (tab : Tab) (l : List AOper) (fr : Fr) (aw : AW) (K : Fr → AW → Prop) : Prop := ∃ fr' aw', Ops tab l fr aw fr' aw' ∧ K fr' aw'
def W1 (tab : Tab) (o : AOper) (fr : Fr) (aw : AW) (K : V → AW → Prop) : Prop := ∃ v aw', One tab o fr aw v aw' ∧ K v aw'
def WF (tab : Tab) (f : Nat) (args : List V) (aw : AW) (K : V → AW → Prop) : Prop := ∃ v aw', CallR tab f args aw v aw' ∧ K v aw'
theorem WX.mono {c : ACode} {fr : Fr} {aw : AW} {Q Q' : AExit → Fr → AW → Prop} (h : WX tab c fr aw Q) (hq : ∀ e f a, Q e f a → Q' e f a) : WX tab c fr aw Q' := by
  obtain ⟨e, f, a, h1, h2⟩ := h; exact ⟨e, f, a, h1, hq _ _ _ h2⟩
theorem WF.mono {f : Nat} {args : List V} {aw : AW} {K K' : V → AW → Prop} (h : WF tab f args aw K) (hk : ∀ v a, K v a → K' v a) : WF tab f args aw K' := by
  obtain ⟨v, a, h1, h2⟩ := h; exact ⟨v, a, h1, hk _ _ h2⟩
def onw (Q : AExit → Fr → AW → Prop) (N : Fr → AW → Prop) : AExit → Fr → AW → Prop
  | .normal, f, a => N f a
  | e, f, a => Q e f a
def inB (id : Nat) (Q : AExit → Fr → AW → Prop) : AExit → Fr → AW → Prop
  | .exit id', f, a => if id' = id then Q .normal f a else Q (.exit id') f a
  | e, f, a => Q e f a
@[simp] theorem onw_normal {Q : AExit → Fr → AW → Prop} {N : Fr → AW → Prop} {f : Fr} {a : AW} : onw Q N .normal f a = N f a := rfl
@[simp] theorem onw_exit {Q : AExit → Fr → AW → Prop} {N : Fr → AW → Prop} {f : Fr} {a : AW} {id : Nat} : onw Q N (.exit id) f a = Q (.exit id) f a := rfl
@[simp] theorem onw_ret {Q : AExit → Fr → AW → Prop} {N : Fr → AW → Prop} {f : Fr} {a : AW} : onw Q N .ret f a = Q .ret f a := rfl
@[simp] theorem inB_normal {Q : AExit → Fr → AW → Prop} {f : Fr} {a : AW} {id : Nat} : inB id Q .normal f a = Q .normal f a := rfl
@[simp] theorem inB_exit {Q : AExit → Fr → AW → Prop} {f : Fr} {a : AW} {id id' : Nat} : inB id Q (.exit id') f a = if id' = id then Q .normal f a else Q (.exit id') f a := rfl
@[simp] theorem inB_ret {Q : AExit → Fr → AW → Prop} {f : Fr} {a : AW} {id : Nat} : inB id Q .ret f a = Q .ret f a := rfl
def condK (o : Option V) (A B : Prop) : Prop :=
  match o with
  | some (.bool b) => bif b then A else B
  | _ => False
theorem condK_of {b : Bool} {A B : Prop} (h1 : b = true → A) (h2 : b = false → B) : condK (some (.bool b)) A B := by
  cases b
  · exact h2 rfl
  · exact h1 rfl
theorem WX_skip {fr : Fr} {aw : AW} {Q : AExit → Fr → AW → Prop} : WX tab .skip fr aw Q = Q .normal fr aw := by
  refine propext ⟨?_, fun h => ⟨_, _, _, .skip, h⟩⟩
  rintro ⟨_, _, _, h1, h2⟩; cases h1; exact h2
theorem WX_ret {fr : Fr} {aw : AW} {Q : AExit → Fr → AW → Prop} : WX tab .ret fr aw Q = Q .ret fr aw := by
  refine propext ⟨?_, fun h => ⟨_, _, _, .ret, h⟩⟩
  rintro ⟨_, _, _, h1, h2⟩; cases h1; exact h2
theorem WX_exit {id : Nat} {fr : Fr} {aw : AW} {Q : AExit → Fr → AW → Prop} : WX tab (.exit id) fr aw Q = Q (.exit id) fr aw := by
  refine propext ⟨?_, fun h => ⟨_, _, _, .exit, h⟩⟩
  rintro ⟨_, _, _, h1, h2⟩; cases h1; exact h2
theorem WX_region {l : List AOper} {fr : Fr} {aw : AW} {Q : AExit → Fr → AW → Prop} : WX tab (.region l) fr aw Q = WO tab l fr aw (fun f a => Q .normal f a) := by
  refine propext ⟨?_, ?_⟩
  · rintro ⟨_, _, _, h1, h2⟩; cases h1; rename_i h; exact ⟨_, _, h, h2⟩
  · rintro ⟨_, _, h1, h2⟩; exact ⟨_, _, _, .region h1, h2⟩
theorem WX_seq {a b : ACode} {fr : Fr} {aw : AW} {Q : AExit → Fr → AW → Prop} : WX tab (.seq a b) fr aw Q = WX tab a fr aw (onw Q fun f w => WX tab b f w Q) := by
  refine propext ⟨?_, ?_⟩
  · rintro ⟨_, _, _, h1, h2⟩
    cases h1 with
    | seq i1 i2 => exact ⟨_, _, _, i1, _, _, _, i2, h2⟩
    | seqE i1 => exact ⟨_, _, _, i1, h2⟩
    | seqR i1 => exact ⟨_, _, _, i1, h2⟩
  · rintro ⟨e, _, _, h1, h2⟩
    cases e with
    | normal => obtain ⟨_, _, _, i2, h3⟩ := h2; exact ⟨_, _, _, .seq h1 i2, h3⟩
    | exit id => exact ⟨_, _, _, .seqE h1, h2⟩
    | ret => exact ⟨_, _, _, .seqR h1, h2⟩
theorem WX_cond {c : Opd} {a b : ACode} {fr : Fr} {aw : AW} {Q : AExit → Fr → AW → Prop} : WX tab (.cond c a b) fr aw Q = condK (c.ev fr) (WX tab a fr aw Q) (WX tab b fr aw Q) := by
  refine propext ⟨?_, ?_⟩
  · rintro ⟨_, _, _, h1, h2⟩
    cases h1 with
    | condT i0 i1 => rw [i0]; exact ⟨_, _, _, i1, h2⟩
    | condF i0 i1 => rw [i0]; exact ⟨_, _, _, i1, h2⟩
  · intro h
    unfold condK at h
    split at h
    · rename_i v hv
      cases v with
      | true => obtain ⟨_, _, _, i1, h2⟩ := h; exact ⟨_, _, _, .condT hv i1, h2⟩
      | false => obtain ⟨_, _, _, i1, h2⟩ := h; exact ⟨_, _, _, .condF hv i1, h2⟩
    · exact h.elim
theorem WX_block {id : Nat} {b : ACode} {fr : Fr} {aw : AW} {Q : AExit → Fr → AW → Prop} : WX tab (.block id b) fr aw Q = WX tab b fr aw (inB id Q) := by
  refine propext ⟨?_, ?_⟩
  · rintro ⟨_, _, _, h1, h2⟩
    cases h1 with
    | block i1 => exact ⟨_, _, _, i1, h2⟩
    | blockX i1 => exact ⟨_, _, _, i1, by simpa using h2⟩
    | blockE i1 hne => exact ⟨_, _, _, i1, by simpa [hne] using h2⟩
    | blockR i1 => exact ⟨_, _, _, i1, h2⟩
  · rintro ⟨e, _, _, h1, h2⟩
    cases e with
    | normal => exact ⟨_, _, _, .block h1, h2⟩
    | exit id' =>
      simp only [inB_exit] at h2
      split at h2
      · rename_i he; subst he; exact ⟨_, _, _, .blockX h1, h2⟩
      · rename_i he; exact ⟨_, _, _, .blockE h1 he, h2⟩
    | ret => exact ⟨_, _, _, .blockR h1, h2⟩
theorem WX_scope {b : ACode} {fr : Fr} {aw : AW} {Q : AExit → Fr → AW → Prop} : WX tab (.scope b) fr aw Q = WX tab b fr aw Q := by
  refine propext ⟨?_, ?_⟩
  · rintro ⟨_, _, _, h1, h2⟩; cases h1; rename_i h; exact ⟨_, _, _, h, h2⟩
  · rintro ⟨_, _, _, h1, h2⟩; exact ⟨_, _, _, .scope h1, h2⟩
theorem WO_nil {fr : Fr} {aw : AW} {K : Fr → AW → Prop} : WO tab [] fr aw K = K fr aw := by
  refine propext ⟨?_, fun h => ⟨_, _, .nil, h⟩⟩
  rintro ⟨_, _, h1, h2⟩; cases h1; exact h2
theorem WO_cons {o : AOper} {l : List AOper} {fr : Fr} {aw : AW} {K : Fr → AW → Prop} : WO tab (o :: l) fr aw K = W1 tab o fr aw (fun v a => WO tab l (putO fr o.dst v) a K) := by
  refine propext ⟨?_, ?_⟩
  · rintro ⟨_, _, h1, h2⟩; cases h1; rename_i i1 i2; exact ⟨_, _, i1, _, _, i2, h2⟩
  · rintro ⟨_, _, i1, _, _, i2, h2⟩; exact ⟨_, _, .cons i1 i2, h2⟩
def WC (tab : Tab) (f : Nat) (args : List V) (aw : AW) (K : V → AW → Prop) : Prop := WF tab f args aw K ∨ ∃ v aw', tab.ext f args aw v aw' ∧ K v aw'
theorem WC.of {f : Nat} {args : List V} {aw : AW} {K : V → AW → Prop} (h : WF tab f args aw K) : WC tab f args aw K := .inl h
def resK (tab : Tab) (r : Option (Res × AW)) (K : V → AW → Prop) : Prop :=
  match r with
  | some (.val v, a) => K v a
  | some (.skip, a) => K .undef a
  | some (.call f args, a) => WC tab f args a K
  | none => False
def wantK (w : Option Bool) (A : Prop) (B : Prop) : Prop :=
  match w with
  | some b => bif b then A else B
  | none => False
theorem W1_eq {o : AOper} {fr : Fr} {aw : AW} {K : V → AW → Prop} : W1 tab o fr aw K = wantK (wanted fr o.guard) (resK tab (aop o.op fr aw) K) (K .undef aw) := by
  refine propext ⟨?_, fun h => ?_⟩
  · rintro ⟨v, a, h1, h2⟩
    cases h1 with
    | pass hw => rw [hw]; exact h2
    | val hw ha => rw [hw, ha]; exact h2
    | skip hw ha => rw [hw, ha]; exact h2
    | call hw ha hc => rw [hw, ha]; exact .inl ⟨_, _, hc, h2⟩
    | ext hw ha hc => rw [hw, ha]; exact .inr ⟨_, _, hc, h2⟩
  · unfold wantK at h
    split at h
    · rename_i b hw
      cases b with
      | true =>
        unfold resK at h
        simp only [cond_true] at h
        split at h
        · rename_i ha; exact ⟨_, _, .val hw ha, h⟩
        · rename_i ha; exact ⟨_, _, .skip hw ha, h⟩
        · rename_i ha
          rcases h with ⟨v, a, h1, h2⟩ | ⟨v, a, h1, h2⟩
          · exact ⟨_, _, .call hw ha h1, h2⟩
          · exact ⟨_, _, .ext hw ha h1, h2⟩
        · exact h.elim
      | false => exact ⟨_, _, .pass hw, h⟩
    · exact h.elim
theorem WF_code {f : Nat} {args : List V} {aw : AW} {K : V → AW → Prop} {af : AFun} (hc : tab.code f = some af) (hn : args.length ≤ af.ntmps)
    (h : WX tab af.body (initFr args 0) aw (fun e fr' aw' => (e = .normal ∨ e = .ret) ∧ ∃ vs, resV fr' aw' af.results = some vs ∧ K (resOne vs) aw')) : WF tab f args aw K := by
  obtain ⟨e, fr', aw', h1, h2, vs, h3, h4⟩ := h
  exact ⟨_, _, .code hc hn h1 h2 h3, h4⟩
end
end Go.AE
set_option linter.unusedVariables false
set_option linter.unusedSectionVars false
set_option linter.unusedSimpArgs false
namespace Go.AE
variable [Globs]
inductive SI where
  | code (c : ACode)
  | ops (l : List AOper)
  | endB (id : Nat)
section
variable {tab : Tab}
def KS (tab : Tab) : List SI → (Fr → AW → Prop) → AExit → Fr → AW → Prop
  | [], Q => fun e f w => match e with
    | .exit _ => False
    | _ => Q f w
  | .endB id :: s, Q => inB id (KS tab s Q)
  | .code c :: s, Q => onw (KS tab s Q) (fun f w => WX tab c f w (KS tab s Q))
  | .ops l :: s, Q => onw (KS tab s Q) (fun f w => WO tab l f w (fun f w => KS tab s Q .normal f w))
def WS (tab : Tab) (s : List SI) (fr : Fr) (aw : AW) (Q : Fr → AW → Prop) : Prop := KS tab s Q .normal fr aw
def popTo (id : Nat) : List SI → Option (List SI)
  | [] => none
  | .endB id' :: s => if id = id' then some s else popTo id s
  | .code _ :: s => popTo id s
  | .ops _ :: s => popTo id s
theorem KS_ret {Q : Fr → AW → Prop} {f : Fr} {w : AW} (h : Q f w) : ∀ {s : List SI}, KS tab s Q .ret f w
  | [] => h
  | .endB id :: s => KS_ret (s := s) h
  | .code c :: s => KS_ret (s := s) h
  | .ops l :: s => KS_ret (s := s) h
theorem KS_exit {id : Nat} {Q : Fr → AW → Prop} {f : Fr} {w : AW} : ∀ {s s' : List SI}, popTo id s = some s' → WS tab s' f w Q → KS tab s Q (.exit id) f w
  | [], s', h, _ => by cases h
  | .endB id' :: s, s', h, hw => by
    simp only [popTo] at h
    split at h
    · rename_i hb
      subst hb
      cases h
      simp only [KS, inB, if_pos]
      exact hw
    · rename_i hb
      simp only [KS, inB, if_neg hb]
      exact KS_exit h hw
  | .code c :: s, s', h, hw => KS_exit (s := s) h hw
  | .ops l :: s, s', h, hw => KS_exit (s := s) h hw
theorem WS_endB {id : Nat} {s : List SI} {fr : Fr} {aw : AW} {Q : Fr → AW → Prop} (h : WS tab s fr aw Q) : WS tab (.endB id :: s) fr aw Q := h
theorem WS_skip {s : List SI} {fr : Fr} {aw : AW} {Q : Fr → AW → Prop} (h : WS tab s fr aw Q) : WS tab (.code .skip :: s) fr aw Q := by
  show WX tab .skip fr aw _; rw [WX_skip]; exact h
theorem WS_seq {a b : ACode} {s : List SI} {fr : Fr} {aw : AW} {Q : Fr → AW → Prop} (h : WS tab (.code a :: .code b :: s) fr aw Q) : WS tab (.code (.seq a b) :: s) fr aw Q := by
  show WX tab (.seq a b) fr aw _; rw [WX_seq]; exact h
theorem WS_block {id : Nat} {b : ACode} {s : List SI} {fr : Fr} {aw : AW} {Q : Fr → AW → Prop} (h : WS tab (.code b :: .endB id :: s) fr aw Q) : WS tab (.code (.block id b) :: s) fr aw Q := by
  show WX tab (.block id b) fr aw _; rw [WX_block]; exact h
theorem WS_scope {b : ACode} {s : List SI} {fr : Fr} {aw : AW} {Q : Fr → AW → Prop} (h : WS tab (.code b :: s) fr aw Q) : WS tab (.code (.scope b) :: s) fr aw Q := by
  show WX tab (.scope b) fr aw _; rw [WX_scope]; exact h
theorem WS_region {l : List AOper} {s : List SI} {fr : Fr} {aw : AW} {Q : Fr → AW → Prop} (h : WS tab (.ops l :: s) fr aw Q) : WS tab (.code (.region l) :: s) fr aw Q := by
  show WX tab (.region l) fr aw _; rw [WX_region]; exact h
theorem WS_exit {id : Nat} {s s' : List SI} {fr : Fr} {aw : AW} {Q : Fr → AW → Prop} (hp : popTo id s = some s') (h : WS tab s' fr aw Q) : WS tab (.code (.exit id) :: s) fr aw Q := by
  show WX tab (.exit id) fr aw _; rw [WX_exit]; exact KS_exit hp h
theorem WS_ret {s : List SI} {fr : Fr} {aw : AW} {Q : Fr → AW → Prop} (h : Q fr aw) : WS tab (.code .ret :: s) fr aw Q := by
  show WX tab .ret fr aw _; rw [WX_ret]; exact KS_ret h
theorem WS_cond {c : Opd} {a b : ACode} {s : List SI} {fr : Fr} {aw : AW} {Q : Fr → AW → Prop} {t : Bool} (hc : c.ev fr = some (.bool t)) (h1 : t = true → WS tab (.code a :: s) fr aw Q) (h2 : t = false → WS tab (.code b :: s) fr aw Q) : WS tab (.code (.cond c a b) :: s) fr aw Q := by
  show WX tab (.cond c a b) fr aw _; rw [WX_cond, hc]
  exact condK_of h1 h2
theorem WS_condT {c : Opd} {a b : ACode} {s : List SI} {fr : Fr} {aw : AW} {Q : Fr → AW → Prop} (hc : c.ev fr = some (.bool true)) (h1 : WS tab (.code a :: s) fr aw Q) : WS tab (.code (.cond c a b) :: s) fr aw Q :=
  WS_cond hc (fun _ => h1) (fun h => by cases h)
theorem WS_condF {c : Opd} {a b : ACode} {s : List SI} {fr : Fr} {aw : AW} {Q : Fr → AW → Prop} (hc : c.ev fr = some (.bool false)) (h1 : WS tab (.code b :: s) fr aw Q) : WS tab (.code (.cond c a b) :: s) fr aw Q :=
  WS_cond hc (fun h => by cases h) (fun _ => h1)
theorem WS_opsNil {s : List SI} {fr : Fr} {aw : AW} {Q : Fr → AW → Prop} (h : WS tab s fr aw Q) : WS tab (.ops [] :: s) fr aw Q := by
  show WO tab [] fr aw _; rw [WO_nil]; exact h
theorem WS_val {o : AOper} {l : List AOper} {s : List SI} {fr : Fr} {aw aw1 : AW} {v : V} {Q : Fr → AW → Prop} (hw : wanted fr o.guard = some true) (ha : aop o.op fr aw = some (.val v, aw1)) (h : WS tab (.ops l :: s) (putO fr o.dst v) aw1 Q) : WS tab (.ops (o :: l) :: s) fr aw Q := by
  show WO tab (o :: l) fr aw _; rw [WO_cons, W1_eq, hw, ha]; exact h
theorem WS_eff {o : AOper} {l : List AOper} {s : List SI} {fr : Fr} {aw aw1 : AW} {Q : Fr → AW → Prop} (hw : wanted fr o.guard = some true) (ha : aop o.op fr aw = some (.skip, aw1)) (h : WS tab (.ops l :: s) (putO fr o.dst .undef) aw1 Q) : WS tab (.ops (o :: l) :: s) fr aw Q := by
  show WO tab (o :: l) fr aw _; rw [WO_cons, W1_eq, hw, ha]; exact h
theorem WS_pass {o : AOper} {l : List AOper} {s : List SI} {fr : Fr} {aw : AW} {Q : Fr → AW → Prop} (hw : wanted fr o.guard = some false) (h : WS tab (.ops l :: s) (putO fr o.dst .undef) aw Q) : WS tab (.ops (o :: l) :: s) fr aw Q := by
  show WO tab (o :: l) fr aw _; rw [WO_cons, W1_eq, hw]; exact h
theorem WS_call {o : AOper} {l : List AOper} {s : List SI} {fr : Fr} {aw aw1 : AW} {f : Nat} {args : List V} {Q : Fr → AW → Prop} (hw : wanted fr o.guard = some true) (ha : aop o.op fr aw = some (.call f args, aw1)) (h : WF tab f args aw1 (fun v w => WS tab (.ops l :: s) (putO fr o.dst v) w Q)) : WS tab (.ops (o :: l) :: s) fr aw Q := by
  show WO tab (o :: l) fr aw _; rw [WO_cons, W1_eq, hw, ha]; exact .inl h
theorem WF_of {f : Nat} {args : List V} {aw : AW} {K : V → AW → Prop} {af : AFun} (hc : tab.code f = some af) (hn : Nat.ble args.length af.ntmps = true)
    (h : WS tab [.code af.body] (initFr args 0) aw (fun fr' aw' => ∃ vs, resV fr' aw' af.results = some vs ∧ K (resOne vs) aw')) : WF tab f args aw K := by
  refine WF_code hc (Nat.le_of_ble_eq_true hn) (WX.mono h ?_)
  intro e f w hk
  cases e with
  | normal => exact ⟨.inl rfl, hk⟩
  | ret => exact ⟨.inr rfl, hk⟩
  | exit id => exact hk.elim
inductive RS where
  | on (s : List SI) (fr : Fr) (aw : AW)
  | none
def eRun0 : Nat → List SI → Fr → AW → RS
  | 0, s, fr, aw => RS.on s fr aw
  | n + 1, [], fr, aw => RS.on [] fr aw
  | n + 1, .endB _ :: s, fr, aw => eRun0 n s fr aw
  | n + 1, .ops [] :: s, fr, aw => eRun0 n s fr aw
  | n + 1, .ops (o :: l) :: s, fr, aw => match wanted fr o.guard with
    | some true => match aop o.op fr aw with
      | some (.val v, aw1) => eRun0 n (.ops l :: s) (putO fr o.dst v) aw1
      | some (.skip, aw1) => eRun0 n (.ops l :: s) (putO fr o.dst .undef) aw1
      | _ => RS.on (.ops (o :: l) :: s) fr aw
    | some false => eRun0 n (.ops l :: s) (putO fr o.dst .undef) aw
    | none => RS.on (.ops (o :: l) :: s) fr aw
  | n + 1, .code c :: s, fr, aw => match c with
    | .skip => eRun0 n s fr aw
    | .seq a b => eRun0 n (.code a :: .code b :: s) fr aw
    | .block id b => eRun0 n (.code b :: .endB id :: s) fr aw
    | .scope b => eRun0 n (.code b :: s) fr aw
    | .region l => eRun0 n (.ops l :: s) fr aw
    | .exit id => match popTo id s with
      | some s' => eRun0 n s' fr aw
      | none => RS.on (.code (.exit id) :: s) fr aw
    | .cond c a b => match c.ev fr with
      | some (.bool true) => eRun0 n (.code a :: s) fr aw
      | some (.bool false) => eRun0 n (.code b :: s) fr aw
      | _ => RS.on (.code (.cond c a b) :: s) fr aw
    | .loop b => RS.on (.code (.loop b) :: s) fr aw
    | .drawn l => RS.on (.code (.drawn l) :: s) fr aw
    | .ret => RS.on [.code .ret] fr aw
theorem WS_run0 {Q : Fr → AW → Prop} : ∀ (n : Nat) {s s' : List SI} {fr fr' : Fr} {aw aw' : AW}, eRun0 n s fr aw = RS.on s' fr' aw' → WS tab s' fr' aw' Q → WS tab s fr aw Q
  | 0, s, s', fr, fr', aw, aw', h, hw => by cases h; exact hw
  | n + 1, [], s', fr, fr', aw, aw', h, hw => by cases h; exact hw
  | n + 1, .endB _ :: s, s', fr, fr', aw, aw', h, hw => WS_endB (WS_run0 n h hw)
  | n + 1, .ops [] :: s, s', fr, fr', aw, aw', h, hw => WS_opsNil (WS_run0 n h hw)
  | n + 1, .ops (o :: l) :: s, s', fr, fr', aw, aw', h, hw => by
    simp only [eRun0] at h
    split at h
    · rename_i h1
      split at h
      · rename_i h2; exact WS_val h1 h2 (WS_run0 n h hw)
      · rename_i h2; exact WS_eff h1 h2 (WS_run0 n h hw)
      · cases h; exact hw
    · rename_i h1; exact WS_pass h1 (WS_run0 n h hw)
    · cases h; exact hw
  | n + 1, .code c :: s, s', fr, fr', aw, aw', h, hw => by
    cases c with
    | skip => exact WS_skip (WS_run0 n h hw)
    | seq a b => exact WS_seq (WS_run0 n h hw)
    | block id b => exact WS_block (WS_run0 n h hw)
    | scope b => exact WS_scope (WS_run0 n h hw)
    | region l => exact WS_region (WS_run0 n h hw)
    | exit id =>
      simp only [eRun0] at h
      split at h
      · rename_i h1; exact WS_exit h1 (WS_run0 n h hw)
      · cases h; exact hw
    | cond c a b =>
      simp only [eRun0] at h
      split at h
      · rename_i h1; exact WS_condT h1 (WS_run0 n h hw)
      · rename_i h1; exact WS_condF h1 (WS_run0 n h hw)
      · cases h; exact hw
    | loop b => cases h; exact hw
    | drawn l => cases h; exact hw
    | ret => cases h; have h0 : WX tab .ret fr aw (KS tab [] Q) := hw; rw [WX_ret] at h0; exact WS_ret h0
theorem eRun_ex : ∃ f : Nat → List SI → Fr → AW → RS, f = eRun0 := ⟨_, rfl⟩
@[irreducible] noncomputable def eRun : Nat → List SI → Fr → AW → RS := Classical.choose eRun_ex
theorem eRun_eq : eRun = eRun0 := by unfold eRun; exact Classical.choose_spec eRun_ex
theorem WS_run {Q : Fr → AW → Prop} (n : Nat) {s s' : List SI} {fr fr' : Fr} {aw aw' : AW} (h : eRun n s fr aw = RS.on s' fr' aw') (hw : WS tab s' fr' aw' Q) : WS tab s fr aw Q := by
  rw [eRun_eq] at h; exact WS_run0 n h hw
theorem eRun_nil {n : Nat} {fr : Fr} {aw : AW} : eRun (n + 1) [] fr aw = RS.on [] fr aw := by rw [eRun_eq]; rfl
theorem eRun_endB {n id : Nat} {s : List SI} {fr : Fr} {aw : AW} : eRun (n + 1) (.endB id :: s) fr aw = eRun n s fr aw := by rw [eRun_eq]; rfl
theorem eRun_opsNil {n : Nat} {s : List SI} {fr : Fr} {aw : AW} : eRun (n + 1) (.ops [] :: s) fr aw = eRun n s fr aw := by rw [eRun_eq]; rfl
theorem eRun_ops {n : Nat} {o : AOper} {l : List AOper} {s : List SI} {fr : Fr} {aw : AW} : eRun (n + 1) (.ops (o :: l) :: s) fr aw = match wanted fr o.guard with
    | some true => match aop o.op fr aw with
      | some (.val v, aw1) => eRun n (.ops l :: s) (putO fr o.dst v) aw1
      | some (.skip, aw1) => eRun n (.ops l :: s) (putO fr o.dst .undef) aw1
      | _ => RS.on (.ops (o :: l) :: s) fr aw
    | some false => eRun n (.ops l :: s) (putO fr o.dst .undef) aw
    | none => RS.on (.ops (o :: l) :: s) fr aw := by rw [eRun_eq]; rfl
theorem eRun_skip {n : Nat} {s : List SI} {fr : Fr} {aw : AW} : eRun (n + 1) (.code .skip :: s) fr aw = eRun n s fr aw := by rw [eRun_eq]; rfl
theorem eRun_seq {n : Nat} {a b : ACode} {s : List SI} {fr : Fr} {aw : AW} : eRun (n + 1) (.code (.seq a b) :: s) fr aw = eRun n (.code a :: .code b :: s) fr aw := by rw [eRun_eq]; rfl
theorem eRun_block {n id : Nat} {b : ACode} {s : List SI} {fr : Fr} {aw : AW} : eRun (n + 1) (.code (.block id b) :: s) fr aw = eRun n (.code b :: .endB id :: s) fr aw := by rw [eRun_eq]; rfl
theorem eRun_scope {n : Nat} {b : ACode} {s : List SI} {fr : Fr} {aw : AW} : eRun (n + 1) (.code (.scope b) :: s) fr aw = eRun n (.code b :: s) fr aw := by rw [eRun_eq]; rfl
theorem eRun_region {n : Nat} {l : List AOper} {s : List SI} {fr : Fr} {aw : AW} : eRun (n + 1) (.code (.region l) :: s) fr aw = eRun n (.ops l :: s) fr aw := by rw [eRun_eq]; rfl
theorem eRun_exit {n id : Nat} {s : List SI} {fr : Fr} {aw : AW} : eRun (n + 1) (.code (.exit id) :: s) fr aw = match popTo id s with
      | some s' => eRun n s' fr aw
      | none => RS.on (.code (.exit id) :: s) fr aw := by rw [eRun_eq]; rfl
theorem eRun_cond {n : Nat} {c : Opd} {a b : ACode} {s : List SI} {fr : Fr} {aw : AW} : eRun (n + 1) (.code (.cond c a b) :: s) fr aw = match c.ev fr with
      | some (.bool true) => eRun n (.code a :: s) fr aw
      | some (.bool false) => eRun n (.code b :: s) fr aw
      | _ => RS.on (.code (.cond c a b) :: s) fr aw := by rw [eRun_eq]; rfl
theorem eRun_loop {n : Nat} {b : ACode} {s : List SI} {fr : Fr} {aw : AW} : eRun (n + 1) (.code (.loop b) :: s) fr aw = RS.on (.code (.loop b) :: s) fr aw := by rw [eRun_eq]; rfl
theorem eRun_drawn {n : Nat} {l : List DOper} {s : List SI} {fr : Fr} {aw : AW} : eRun (n + 1) (.code (.drawn l) :: s) fr aw = RS.on (.code (.drawn l) :: s) fr aw := by rw [eRun_eq]; rfl
theorem eRun_ret {n : Nat} {s : List SI} {fr : Fr} {aw : AW} : eRun (n + 1) (.code .ret :: s) fr aw = RS.on [.code .ret] fr aw := by rw [eRun_eq]; rfl
theorem T.get_putk {α : Type} {t : T α} {k j : Nat} {x : α} : (t.put k x).get j = if j = k then some x else t.get j := by
  by_cases hj : j = k
  · subst hj; rw [if_pos rfl, get_put_same]
  · rw [if_neg hj, get_put_ne hj]
theorem initFr_nil {k : Nat} : initFr [] k = .e := rfl
theorem initFr_cons {v : V} {l : List V} {k : Nat} : initFr (v :: l) k = (initFr l (k + 1)).put k v := rfl
theorem putO_some {fr : Fr} {d : Nat} {v : V} : putO fr (some d) v = fr.put d v := rfl
theorem putO_none {fr : Fr} {v : V} : putO fr none v = fr := rfl
theorem wanted_none {fr : Fr} : wanted fr none = some true := rfl
theorem ev_tmp {fr : Fr} {t : Nat} : (Opd.tmp t).ev fr = fr.get t := rfl
theorem ev_const {fr : Fr} {v : V} : (Opd.const v).ev fr = some v := rfl
theorem resOne_one {v : V} : resOne [v] = v := rfl
theorem resOne_two {v u : V} : resOne [v, u] = .tuple [v, u] := rfl
theorem natBeq {a b : Nat} : Nat.beq a b = decide (a = b) := by
  cases h : Nat.beq a b with
  | true => simp [Nat.eq_of_beq_eq_true h]
  | false => simp [Nat.ne_of_beq_eq_false h]
theorem natBle {a b : Nat} : Nat.ble a b = decide (a ≤ b) := by
  cases h : Nat.ble a b with
  | true => simp [Nat.le_of_ble_eq_true h]
  | false => simp only [Bool.false_eq, decide_eq_false_iff_not]; exact Nat.not_le_of_not_ble_eq_true (by simp [h])
theorem natBlt {a b : Nat} : Nat.blt a b = decide (a < b) := by
  unfold Nat.blt; rw [natBle]; rfl
theorem gt_nn {a b : Nat} : decide (Int.ofNat a > Int.ofNat b) = decide (b < a) := by simp
theorem ge_nn {a b : Nat} : decide (Int.ofNat a ≥ Int.ofNat b) = decide (b ≤ a) := by simp
theorem le_nn {a b : Nat} : decide (Int.ofNat a ≤ Int.ofNat b) = decide (a ≤ b) := by simp
theorem lt_nn {a b : Nat} : decide (Int.ofNat a < Int.ofNat b) = decide (a < b) := by simp
theorem eq_nn {a b : Nat} : (Int.ofNat a == Int.ofNat b) = decide (a = b) := by
  by_cases h : a = b
  · simp [h]
  · simp only [h, decide_false, beq_eq_false_iff_ne, ne_eq]; intro e; exact h (Int.ofNat.inj e)
theorem ne_nn {a b : Nat} : (Int.ofNat a != Int.ofNat b) = !decide (a = b) := by
  simp only [bne, eq_nn]
theorem gt_nl {a b : Nat} : decide (Int.ofNat a > (no_index (@OfNat.ofNat Int b instOfNat))) = decide (@OfNat.ofNat Nat b (instOfNatNat b) < a) := gt_nn
theorem ge_nl {a b : Nat} : decide (Int.ofNat a ≥ (no_index (@OfNat.ofNat Int b instOfNat))) = decide (@OfNat.ofNat Nat b (instOfNatNat b) ≤ a) := ge_nn
theorem le_nl {a b : Nat} : decide (Int.ofNat a ≤ (no_index (@OfNat.ofNat Int b instOfNat))) = decide (a ≤ @OfNat.ofNat Nat b (instOfNatNat b)) := le_nn
theorem lt_nl {a b : Nat} : decide (Int.ofNat a < (no_index (@OfNat.ofNat Int b instOfNat))) = decide (a < @OfNat.ofNat Nat b (instOfNatNat b)) := lt_nn
theorem eq_nl {a b : Nat} : (Int.ofNat a == (no_index (@OfNat.ofNat Int b instOfNat))) = decide (a = @OfNat.ofNat Nat b (instOfNatNat b)) := eq_nn
theorem ne_nl {a b : Nat} : (Int.ofNat a != (no_index (@OfNat.ofNat Int b instOfNat))) = !decide (a = @OfNat.ofNat Nat b (instOfNatNat b)) := ne_nn
theorem gt_ln {a b : Nat} : decide ((no_index (@OfNat.ofNat Int b instOfNat)) > Int.ofNat a) = decide (a < @OfNat.ofNat Nat b (instOfNatNat b)) := gt_nn
theorem ge_ln {a b : Nat} : decide ((no_index (@OfNat.ofNat Int b instOfNat)) ≥ Int.ofNat a) = decide (a ≤ @OfNat.ofNat Nat b (instOfNatNat b)) := ge_nn
theorem lt_ln {a b : Nat} : decide ((no_index (@OfNat.ofNat Int b instOfNat)) < Int.ofNat a) = decide (@OfNat.ofNat Nat b (instOfNatNat b) < a) := lt_nn
theorem le_ln {a b : Nat} : decide ((no_index (@OfNat.ofNat Int b instOfNat)) ≤ Int.ofNat a) = decide (@OfNat.ofNat Nat b (instOfNatNat b) ≤ a) := le_nn
theorem take_drop_all {α : Type} {k : Nat} {s : List α} : (s.drop k).take (s.length - k) = s.drop k := List.take_of_length_le (by simp)
theorem take_drop_mid {α : Type} {k n : Nat} {s : List α} : (s.drop k).take (k + n - k) = (s.drop k).take n := by rw [Nat.add_sub_cancel_left]
structure Ext (N : Nat) (w w' : AW) : Prop where
  le : N ≤ w.next
  next : w.next ≤ w'.next
  heap : ∀ b, b < N → w'.heap.get b = w.heap.get b
  fams : ∀ b, b < N → w'.fams.get b = w.fams.get b
theorem Ext.refl (w : AW) : Ext w.next w w := ⟨Nat.le_refl _, Nat.le_refl _, fun _ _ => rfl, fun _ _ => rfl⟩
theorem Ext.trans {N : Nat} {a b c : AW} (h : Ext N a b) (h' : Ext N b c) : Ext N a c :=
  ⟨h.le, Nat.le_trans h.next h'.next, fun k hk => (h'.heap k hk).trans (h.heap k hk), fun k hk => (h'.fams k hk).trans (h.fams k hk)⟩
theorem Ext.mono {N M : Nat} {a b : AW} (h : Ext N a b) (hm : M ≤ N) : Ext M a b :=
  ⟨Nat.le_trans hm h.le, h.next, fun k hk => h.heap k (Nat.lt_of_lt_of_le hk hm), fun k hk => h.fams k (Nat.lt_of_lt_of_le hk hm)⟩
theorem Ext.new {N : Nat} {w : AW} (h : N ≤ w.next) (x : Blk) : Ext N w (w.new x) :=
  ⟨h, Nat.le_succ _, fun b hb => T.get_put_ne (by omega), fun _ _ => rfl⟩
inductive Own (N : Nat) (w : AW) : V → Nat → Nat → List V → Prop
  | nil {esz : Nat} : Own N w .nilslice esz 0 []
  | blk {b n esz : Nat} {cs : List V} {sh : Share} (hN : N ≤ b) (hb : b < w.next) (hx : w.heap.get b = some (.cells cs sh)) (hl : cs.length = n * esz) (he : 0 < esz) (hn : 0 < n)
      (hs : sh = .own ∨ sh = .lax ∨ ∃ f F, sh = .fam f ∧ N ≤ f ∧ f < w.next ∧ w.fams.get f = some F ∧ F.last = b ∧ F.floor ≤ w.next ∧ w.alive b sh = true) : Own N w (.slice b 0 n (.upTo esz)) esz n cs
theorem Own.ext {N : Nat} {w w' : AW} {v : V} {esz n : Nat} {cs : List V} (h : Own N w v esz n cs) {M : Nat} (hM : w.next ≤ M) (he : Ext M w w') : Own N w' v esz n cs := by
  cases h with
  | nil => exact .nil
  | blk hN hb hx hl he' hn hs =>
    refine .blk hN (Nat.lt_of_lt_of_le hb he.next) ((he.heap _ (by omega)).trans hx) hl he' hn ?_
    rcases hs with rfl | rfl | ⟨f, F, rfl, h1, h2, h3, h4, h6, h5⟩
    · exact .inl rfl
    · exact .inr (.inl rfl)
    · refine .inr (.inr ⟨f, F, rfl, h1, Nat.lt_of_lt_of_le h2 he.next, (he.fams f (by omega)).trans h3, h4, Nat.le_trans h6 he.next, ?_⟩)
      simp only [AW.alive, h3, (he.fams f (by omega)).trans h3] at h5 ⊢
      exact h5
theorem takeN_all : ∀ (l : List V) (n : Nat), l.length = n → takeN n l = some l
  | [], n, h => by cases h; rfl
  | x :: l, n, h => by
    cases n with
    | zero => cases h
    | succ n => simp only [takeN, takeN_all l n (by simpa using h)]
theorem takeN_some : ∀ (n : Nat) (l : List V), n ≤ l.length → takeN n l = some (l.take n)
  | 0, l, h => by simp [takeN]
  | n + 1, [], h => by simp at h
  | n + 1, x :: l, h => by simp only [takeN, takeN_some n l (by simpa using h), List.take_succ_cons]
theorem Own.alive {N : Nat} {w : AW} {b n esz : Nat} {cs : List V} {sh : Share} (hs : sh = .own ∨ sh = .lax ∨ ∃ f F, sh = .fam f ∧ N ≤ f ∧ f < w.next ∧ w.fams.get f = some F ∧ F.last = b ∧ F.floor ≤ w.next ∧ w.alive b sh = true) : w.alive b sh = true := by
  rcases hs with rfl | rfl | ⟨f, F, rfl, h1, h2, h3, h4, h6, h5⟩
  · rfl
  · rfl
  · exact h5
theorem Own.len {N : Nat} {w : AW} {v : V} {esz n : Nat} {cs : List V} (h : Own N w v esz n cs) : cs.length = n * esz := by
  cases h with
  | nil => simp
  | blk hN hb hx hl he' hn hs => exact hl
theorem Own.load {N : Nat} {w : AW} {b n esz : Nat} {c : Cap} {cs : List V} (h : Own N w (.slice b 0 n c) esz n cs) {o k : Nat} (hk : o + k ≤ cs.length) : w.load b o k = some ((cs.drop o).take k) := by
  cases h with
  | blk hN hb hx hl he' hn hs =>
    simp only [AW.load, hx, Own.alive (n := n) (esz := esz) (cs := cs) hs]
    exact takeN_some _ _ (by simp; omega)
theorem Own.append {N : Nat} {w : AW} {v : V} {esz n k bytes : Nat} {cs news : List V} (h : Own N w v esz n cs) (hNw : N ≤ w.next) (he : 0 < esz) (hk : 0 < k) (hl : news.length = k * esz) (h1 : allOne news = true) (hb : (n + k) * bytes ≤ 70368744177664) (hb' : n + k ≤ 70368744177664) :
    ∃ v' w', w.appendV esz bytes v k news = some (v', w') ∧ Own N w' v' esz (n + k) (cs ++ news) ∧ Ext N w w' := by
  obtain ⟨k, rfl⟩ : ∃ m, k = m + 1 := ⟨k - 1, by omega⟩
  cases h with
  | nil =>
    refine ⟨.slice w.next 0 (k + 1) (.upTo esz), w.fresh news, ?_, ?_, Ext.new hNw _⟩
    · simp only [AW.appendV]; rw [if_pos ⟨by simpa using hb, by omega⟩]
    · rw [Nat.zero_add]
      exact .blk hNw (Nat.lt_succ_self _) T.get_put_same (by simpa using hl) he (by omega) (.inl rfl)
  | @blk b _ _ _ sh hN hbw hx hlen he' hn hs =>
    have hbeq : Nat.beq (0 + n * esz) cs.length = true := by rw [Nat.zero_add, hlen, Nat.beq_refl]
    have hin : esz = esz ∧ (n + (k + 1)) * bytes ≤ 70368744177664 ∧ n + (k + 1) ≤ 70368744177664 ∧ allOne news = true ∧ 0 < esz := ⟨rfl, hb, hb', h1, he⟩
    -- from a family's block
    have fam : ∀ (u : AW) (f : Nat) (F : Fam), u.heap.get b = some (.cells cs (.fam f)) → N ≤ f → f < u.next → b < u.next → N ≤ u.next → u.fams.get f = some F → F.last = b → F.floor ≤ u.next → u.alive b (.fam f) = true →
        ∃ v' w', u.appendFam esz b 0 n (k + 1) news = some (v', w') ∧ Own N w' v' esz (n + (k + 1)) (cs ++ news) ∧ Ext N u w' := by
      intro u f F hx hNf hfu hbu hNu hF hlast hfl hal
      refine ⟨.slice u.next 0 (n + (k + 1)) (.upTo esz), u.grow b f F (cs.drop 0 ++ news), ?_, ?_, ?_⟩
      · simp only [AW.appendFam, hx, hal, hF, hbeq]
      · have hg : (u.grow b f F (cs.drop 0 ++ news)).fams.get f = some ⟨F.keep, F.floor, u.next⟩ := by
          simp only [AW.grow, T.get_putk, if_true, hlast, Nat.beq_refl]
        refine .blk hNu (Nat.lt_succ_self _) (sh := .fam f) ?_ ?_ he (by omega) (.inr (.inr ⟨f, ⟨F.keep, F.floor, u.next⟩, rfl, hNf, Nat.lt_succ_of_lt hfu, hg, rfl, Nat.le_succ_of_le hfl, ?_⟩))
        · simp only [AW.grow, T.get_putk, if_true, List.drop_zero]
        · rw [List.length_append, hlen, hl, Nat.add_mul n]
        · simp only [AW.alive, hg, Bool.or_eq_true]
          exact .inr (Nat.ble_eq_true_of_le hfl)
      · refine ⟨hNu, Nat.le_succ _, fun c hc => ?_, fun c hc => ?_⟩
        · exact T.get_put_ne (by omega)
        · exact T.get_put_ne (by omega)
    have fnd : sh = .own ∨ sh = .lax → ∃ v' w', (w.found b cs).appendFam esz b 0 n (k + 1) news = some (v', w') ∧ Own N w' v' esz (n + (k + 1)) (cs ++ news) ∧ Ext N w w' := by
      intro _
      obtain ⟨v', w', q1, q2, q3⟩ := fam (w.found b cs) w.next ⟨b, w.next + 1, b⟩ T.get_put_same hNw (Nat.lt_succ_self _) (Nat.lt_succ_of_lt hbw) (Nat.le_succ_of_le hNw) T.get_put_same rfl (Nat.le_refl _)
        (by simp only [AW.alive, AW.found, T.get_putk, if_true, Nat.beq_refl, Bool.true_or])
      refine ⟨v', w', q1, q2, Ext.trans ⟨hNw, Nat.le_succ _, fun c hc => ?_, fun c hc => ?_⟩ q3⟩
      · exact T.get_put_ne (by omega)
      · exact T.get_put_ne (by omega)
    have happ : w.appendV esz bytes (.slice b 0 n (.upTo esz)) (k + 1) news = w.appendUp esz b 0 n (k + 1) news := if_pos hin
    rw [happ]
    simp only [AW.appendUp, hx, hbeq]
    rcases hs with rfl | rfl | ⟨f, F, rfl, g1, g2, g3, g4, g6, g5⟩
    · exact fnd (.inl rfl)
    · exact fnd (.inr rfl)
    · exact fam w f F hx g1 g2 hbw hNw g3 g4 g6 g5
def dRun : List DOper → Fr → AW → Option Fr
  | [], fr, _ => some fr
  | d :: l, fr, aw => match wanted (hideL fr d.hide) d.op.guard with
    | some true => match aop d.op.op (hideL fr d.hide) aw with
      | some (.val v, _) => dRun l (putO fr d.op.dst v) aw
      | _ => none
    | some false => dRun l (putO fr d.op.dst .undef) aw
    | none => none
theorem Pass.len {l : List DOper} {fr : Fr} {aw : AW} {st : List Stp} {fr' : Fr} {aw' : AW} : Pass tab l fr aw st fr' aw' → st.length = l.length := by
  induction l generalizing fr aw st with
  | nil => intro h; cases h; rfl
  | cons d l ih => intro h; cases h; rename_i h1 h2; simp [ih h2]
theorem idx_lit {k : IntKind} {n : Nat} : idx (.int k (no_index (@OfNat.ofNat Int n instOfNat))) = some (@OfNat.ofNat Nat n (instOfNatNat n)) := rfl
theorem idx_nat {k : IntKind} {n : Nat} : idx (.int k (Int.ofNat n)) = some n := rfl
theorem Own.push {N : Nat} {w : AW} {v : V} {esz n bytes : Nat} {cs news : List V} (h : Own N w v esz n cs) (hNw : N ≤ w.next) (he : 0 < esz) (hl : news.length = esz) (h1 : allOne news = true) (hb : (n + 1) * bytes ≤ 70368744177664) (hb' : n + 1 ≤ 70368744177664) :
    ∃ v' w', (w.fresh news).appendV esz bytes v 1 news = some (v', w') ∧ Own N w' v' esz (n + 1) (cs ++ news) ∧ Ext N w w' := by
  have hx : Ext w.next w (w.fresh news) := Ext.new (Nat.le_refl _) _
  obtain ⟨v', w', h2, h3, h4⟩ := (h.ext (Nat.le_refl _) hx).append (news := news) (bytes := bytes) (k := 1) (Nat.le_trans hNw hx.next) he (by omega) (by omega) h1 hb hb'
  exact ⟨v', w', h2, h3, (hx.mono hNw).trans h4⟩
theorem drop_flat {α : Type} {enc : α → List V} {sz : Nat} (h : ∀ x, (enc x).length = sz) : ∀ (l : List α) (i : Nat), (l.flatMap enc).drop (i * sz) = (l.drop i).flatMap enc
  | [], i => by simp
  | x :: l, 0 => by simp
  | x :: l, i + 1 => by
    have e : (i + 1) * sz = sz + i * sz := by rw [Nat.add_mul, Nat.one_mul, Nat.add_comm]
    rw [List.flatMap_cons, e, ← List.drop_drop, List.drop_append_of_le_length (by rw [h x]; exact Nat.le_refl _)]
    have : List.drop sz (enc x) = [] := List.drop_eq_nil_of_le (by rw [h x]; exact Nat.le_refl _)
    rw [this, List.nil_append, drop_flat h l i, List.drop_succ_cons]
theorem flat_len {α : Type} {enc : α → List V} {sz : Nat} (h : ∀ x, (enc x).length = sz) : ∀ (l : List α), (l.flatMap enc).length = l.length * sz
  | [] => by simp
  | x :: l => by rw [List.flatMap_cons, List.length_append, h x, flat_len h l, List.length_cons, Nat.add_mul, Nat.one_mul, Nat.add_comm]
theorem flat_part {α : Type} {enc : α → List V} {sz : Nat} (h : ∀ x, (enc x).length = sz) {l : List α} {i j k : Nat} {x : α} (hx : l[i]? = some x) (hj : j + k ≤ sz) : (((l.flatMap enc).drop (0 + i * sz + j)).take k) = ((enc x).drop j).take k := by
  have hi : i < l.length := (List.getElem?_eq_some_iff.1 hx).1
  have hd : l.drop i = x :: l.drop (i + 1) := by
    rw [List.drop_eq_getElem_cons hi]; rw [List.getElem?_eq_getElem hi] at hx; rw [Option.some.inj hx]
  rw [Nat.zero_add, ← List.drop_drop, drop_flat h, hd, List.flatMap_cons, List.drop_append_of_le_length (by rw [h x]; omega), List.take_append_of_le_length (by rw [List.length_drop, h x]; omega)]
theorem Own.part {α : Type} {enc : α → List V} {N : Nat} {w : AW} {b n sz : Nat} {c : Cap} {l : List α} (h : ∀ x, (enc x).length = sz) (ho : Own N w (.slice b 0 n c) sz n (l.flatMap enc)) {i j k : Nat} {x : α} (hx : l[i]? = some x) (hj : j + k ≤ sz) :
    w.load b (0 + i * sz + j) k = some (((enc x).drop j).take k) := by
  have hi : i < l.length := (List.getElem?_eq_some_iff.1 hx).1
  rw [ho.load ?_, flat_part h hx hj]
  rw [flat_len h]
  have : i * sz + sz ≤ l.length * sz := by
    have : (i + 1) * sz ≤ l.length * sz := Nat.mul_le_mul_right _ hi
    rwa [Nat.add_mul, Nat.one_mul] at this
  omega
theorem Own.inv {N : Nat} {w : AW} {v : V} {esz n : Nat} {cs : List V} (h : Own N w v esz n cs) : (v = .nilslice ∧ n = 0 ∧ cs = []) ∨ ∃ b, v = .slice b 0 n (.upTo esz) ∧ 0 < n := by
  cases h with
  | nil => exact .inl ⟨rfl, rfl, rfl⟩
  | blk hN hb hx hl he hn hs => exact .inr ⟨_, rfl, hn⟩
end
end Go.AE
set_option linter.unusedSectionVars false
namespace Go.AE
variable [Globs]
theorem lenV_nil : lenV .nilslice = some 0 := rfl
theorem lenV_slice {b o n : Nat} {c : Cap} : lenV (.slice b o n c) = some n := rfl
attribute [go_sem] lenV_nil lenV_slice eRun_nil eRun_endB eRun_opsNil eRun_ops eRun_skip eRun_seq eRun_block eRun_scope eRun_region eRun_cond eRun_loop eRun_drawn eRun_ret dRun hideL T.get_delk evOpt Option.getD_none Option.getD_some Nat.le_refl and_self true_and and_true take_drop_all take_drop_mid gt_nn ge_nn le_nn lt_nn eq_nn ne_nn gt_nl ge_nl le_nl lt_nl eq_nl ne_nl gt_ln ge_ln le_ln lt_ln Bool.true_and Bool.false_and popTo wanted_none wanted aop ev_tmp ev_const evs initFr_cons initFr_nil putO_some putO_none AE.valOf T.get_putk T.get_e idx_lit idx_nat List.getElem?_cons_zero List.getElem?_cons_succ aBin binI aUn beq_self_eq_true Bool.true_beq Bool.false_beq Bool.not_true Bool.not_false List.append_nil List.nil_append List.cons_append natBeq natBle natBlt decide_true decide_false resV resOne_one resOne_two
end Go.AE
set_option linter.unusedVariables false
set_option linter.unusedSectionVars false
set_option linter.unusedSimpArgs false
namespace Go.AE
variable [Globs]
structure Frm (S : Nat → Prop) (w w' : AW) : Prop where
  next : w.next ≤ w'.next
  heap : ∀ b, b < w.next → ¬ S b → w'.heap.get b = w.heap.get b
  fams : ∀ b, b < w.next → ¬ S b → w'.fams.get b = w.fams.get b
theorem Frm.refl {S : Nat → Prop} (w : AW) : Frm S w w := ⟨Nat.le_refl _, fun _ _ _ => rfl, fun _ _ _ => rfl⟩
theorem Frm.trans {S T U : Nat → Prop} {a b c : AW} (h : Frm S a b) (h' : Frm T b c) (hs : ∀ x, x < a.next → S x → U x) (ht : ∀ x, x < a.next → T x → U x) : Frm U a c :=
  ⟨Nat.le_trans h.next h'.next, fun k hk hu => (h'.heap k (Nat.lt_of_lt_of_le hk h.next) fun x => hu (ht k hk x)).trans (h.heap k hk fun x => hu (hs k hk x)),
   fun k hk hu => (h'.fams k (Nat.lt_of_lt_of_le hk h.next) fun x => hu (ht k hk x)).trans (h.fams k hk fun x => hu (hs k hk x))⟩
theorem Frm.mono {S T : Nat → Prop} {a b : AW} (h : Frm S a b) (hs : ∀ x, x < a.next → S x → T x) : Frm T a b := ⟨h.next, fun k hk hu => h.heap k hk fun x => hu (hs k hk x), fun k hk hu => h.fams k hk fun x => hu (hs k hk x)⟩
theorem Frm.new {S : Nat → Prop} (w : AW) (x : Blk) : Frm S w (w.new x) := ⟨Nat.le_succ _, fun b hb _ => T.get_put_ne (by omega), fun _ _ _ => rfl⟩
theorem Ext.frm {N : Nat} {w w' : AW} (h : Ext N w w') {S : Nat → Prop} (hs : ∀ x, x < w.next → N ≤ x → S x) : Frm S w w' :=
  ⟨h.next, fun b hb hn => h.heap b (Nat.lt_of_not_le fun x => hn (hs b hb x)), fun b hb hn => h.fams b (Nat.lt_of_not_le fun x => hn (hs b hb x))⟩
theorem Frm.ext {N : Nat} {w w' : AW} {S : Nat → Prop} (h : Frm S w w') (hN : N ≤ w.next) (hs : ∀ x, S x → N ≤ x) : Ext N w w' :=
  ⟨hN, h.next, fun b hb => h.heap b (by omega) fun x => by have := hs b x; omega, fun b hb => h.fams b (by omega) fun x => by have := hs b x; omega⟩
def Grown (S S' : Nat → Prop) (w w' : AW) : Prop := ∀ b, S' b → b < w'.next ∧ (S b ∨ w.next ≤ b)
def Shr (S : Nat → Prop) (w : AW) (b : Nat) (sh : Share) : Prop :=
  sh = .own ∨ sh = .lax ∨ ∃ f F, sh = .fam f ∧ S f ∧ f < w.next ∧ w.fams.get f = some F ∧ F.last = b ∧ F.floor ≤ w.next ∧ w.alive b sh = true
theorem Shr.alive {S : Nat → Prop} {w : AW} {b : Nat} {sh : Share} (h : Shr S w b sh) : w.alive b sh = true := by
  rcases h with rfl | rfl | ⟨f, F, rfl, h1, h2, h3, h4, h6, h5⟩
  · rfl
  · rfl
  · exact h5
theorem Shr.mono {S S' : Nat → Prop} {w : AW} {b : Nat} {sh : Share} (h : Shr S w b sh) (hs : ∀ x, S x → S' x) : Shr S' w b sh := by
  rcases h with rfl | rfl | ⟨f, F, rfl, h1, h2⟩
  · exact .inl rfl
  · exact .inr (.inl rfl)
  · exact .inr (.inr ⟨f, F, rfl, hs _ h1, h2⟩)
theorem Shr.frm {S T : Nat → Prop} {w w' : AW} {b : Nat} {sh : Share} (h : Shr S w b sh) (hf : Frm T w w') (hd : ∀ x, S x → ¬ T x) : Shr S w' b sh := by
  rcases h with rfl | rfl | ⟨f, F, rfl, h1, h2, h3, h4, h6, h5⟩
  · exact .inl rfl
  · exact .inr (.inl rfl)
  · have e := hf.fams f h2 (hd f h1)
    refine .inr (.inr ⟨f, F, rfl, h1, Nat.lt_of_lt_of_le h2 hf.next, e.trans h3, h4, Nat.le_trans h6 hf.next, ?_⟩)
    simp only [AW.alive, h3, e.trans h3] at h5 ⊢
    exact h5
inductive Buf (S : Nat → Prop) (w : AW) : V → Nat → Nat → List V → Prop
  | nil {esz : Nat} : Buf S w .nilslice esz 0 []
  | blk {b n esz r : Nat} {cs rest : List V} {sh : Share} (hS : S b) (hb : b < w.next) (hx : w.heap.get b = some (.cells (cs ++ rest) sh)) (hl : cs.length = n * esz) (hr : rest.length = r * esz) (he : 0 < esz) (hn : 0 < n + r) (hs : Shr S w b sh) :
      Buf S w (.slice b 0 n (.upTo esz)) esz n cs
theorem Buf.mono {S S' : Nat → Prop} {w : AW} {v : V} {esz n : Nat} {cs : List V} (h : Buf S w v esz n cs) (hs : ∀ x, S x → S' x) : Buf S' w v esz n cs := by
  cases h with
  | nil => exact .nil
  | blk hS hb hx hl hr he hn hsh => exact .blk (hs _ hS) hb hx hl hr he hn (hsh.mono hs)
theorem Buf.frm {S T : Nat → Prop} {w w' : AW} {v : V} {esz n : Nat} {cs : List V} (h : Buf S w v esz n cs) (hf : Frm T w w') (hd : ∀ x, S x → ¬ T x) : Buf S w' v esz n cs := by
  cases h with
  | nil => exact .nil
  | blk hS hb hx hl hr he hn hsh => exact .blk hS (Nat.lt_of_lt_of_le hb hf.next) ((hf.heap _ hb (hd _ hS)).trans hx) hl hr he hn (hsh.frm hf hd)
theorem Buf.len {S : Nat → Prop} {w : AW} {v : V} {esz n : Nat} {cs : List V} (h : Buf S w v esz n cs) : cs.length = n * esz := by
  cases h with
  | nil => simp
  | blk hS hb hx hl hr he hn hsh => exact hl
theorem Buf.inv {S : Nat → Prop} {w : AW} {v : V} {esz n : Nat} {cs : List V} (h : Buf S w v esz n cs) : (v = .nilslice ∧ n = 0 ∧ cs = []) ∨ ∃ b, v = .slice b 0 n (.upTo esz) ∧ S b ∧ b < w.next := by
  cases h with
  | nil => exact .inl ⟨rfl, rfl, rfl⟩
  | blk hS hb hx hl hr he hn hsh => exact .inr ⟨_, rfl, hS, hb⟩
theorem Buf.load {S : Nat → Prop} {w : AW} {b n esz : Nat} {c : Cap} {cs : List V} (h : Buf S w (.slice b 0 n c) esz n cs) {o k : Nat} (hk : o + k ≤ cs.length) : w.load b o k = some ((cs.drop o).take k) := by
  cases h with
  | blk hS hb hx hl hr he hn hsh =>
    simp only [AW.load, hx, hsh.alive]
    rw [takeN_some _ _ (by simp; omega), List.drop_append_of_le_length (by omega), List.take_append_of_le_length (by simp; omega)]
theorem over_mid : ∀ (a b c d : List V), d.length = b.length → over (a ++ b ++ c) a.length d = some (a ++ d ++ c)
  | [], b, c, d, h => by
    have : ∀ (b d : List V), d.length = b.length → over (b ++ c) 0 d = some (d ++ c) := by
      intro b
      induction b with
      | nil => intro d h; cases d with
        | nil => cases hc : c <;> rfl
        | cons x d => simp at h
      | cons y b ih => intro d h; cases d with
        | nil => simp at h
        | cons x d => simp only [List.cons_append, over, ih d (by simpa using h)]
    simpa using this b d h
  | x :: a, b, c, d, h => by
    have := over_mid a b c d h
    simp only [List.cons_append, List.length_cons, over, this]
theorem turn_frm {S : Nat → Prop} {w : AW} {b : Nat} {l : List V} {sh : Share} (hS : S b) (hs : Shr S w b sh) : Frm S w (w.turn b (.cells l sh)) := by
  refine ⟨Nat.le_refl _, fun c hc hn => T.get_put_ne fun e => hn (e ▸ hS), fun c hc hn => ?_⟩
  rcases hs with rfl | rfl | ⟨f, F, rfl, h1, h2⟩
  · rfl
  · rfl
  · exact T.get_put_ne fun e => hn (e ▸ h1)
theorem turn_shr {S : Nat → Prop} {w : AW} {b : Nat} {l : List V} {sh : Share} (hb : b < w.next) (hs : Shr S w b sh) : Shr S (w.turn b (.cells l sh)) b sh := by
  rcases hs with rfl | rfl | ⟨f, F, rfl, h1, h2, h3⟩
  · exact .inl rfl
  · exact .inr (.inl rfl)
  · have e : (w.turn b (.cells l (.fam f))).fams.get f = some ⟨b, w.next, b⟩ := T.get_put_same
    exact .inr (.inr ⟨f, _, rfl, h1, h2, e, rfl, Nat.le_refl _, by simp only [AW.alive, e, Nat.beq_refl, Bool.true_or]⟩)
theorem store_shr {S : Nat → Prop} {w : AW} {b o : Nat} {l l' vs : List V} {sh : Share} (hx : w.heap.get b = some (.cells l sh)) (hs : Shr S w b sh) (h1 : allOne vs = true) (ho : over l o vs = some l') : w.store b o vs = some (w.turn b (.cells l' sh)) := by
  have ha := hs.alive
  rcases hs with rfl | rfl | ⟨f, F, rfl, _⟩ <;> simp only [AW.store, hx, ha, h1, ho]
theorem Buf.add {S : Nat → Prop} {w : AW} {v : V} {esz n bytes : Nat} {cs news : List V} (h : Buf S w v esz n cs) (he : 0 < esz) (hl : news.length = esz) (h1 : allOne news = true) (hb : (n + 1) * bytes ≤ 70368744177664) (hb' : n + 1 ≤ 70368744177664) :
    ∃ v' w' S', w.appendV esz bytes v 1 news = some (v', w') ∧ Buf S' w' v' esz (n + 1) (cs ++ news) ∧ Frm S w w' ∧ Grown S S' w w' := by
  have hcl := h.len
  cases h with
  | nil =>
    refine ⟨.slice w.next 0 1 (.upTo esz), w.fresh news, fun b => b = w.next, ?_, ?_, Frm.new _ _, ?_⟩
    · simp only [AW.appendV]; rw [if_pos ⟨by simpa using hb, by omega⟩]
    · exact .blk (r := 0) (rest := []) rfl (Nat.lt_succ_self _) (by rw [List.append_nil]; exact T.get_put_same) (by simpa using hl) (by simp) he (by omega) (.inl rfl)
    · rintro b rfl; exact ⟨Nat.lt_succ_self _, .inr (Nat.le_refl _)⟩
  | @blk b _ _ r _ rest sh hS hbw hx hlen hr he' hn hs =>
    have happ : w.appendV esz bytes (.slice b 0 n (.upTo esz)) 1 news = w.appendUp esz b 0 n 1 news := if_pos ⟨rfl, hb, hb', h1, he⟩
    rw [happ]
    cases r with
    | succ r =>
      -- room behind it
      have hne : Nat.beq (0 + n * esz) (cs ++ rest).length = false := by
        rw [natBeq, decide_eq_false_iff_not, List.length_append, hlen, hr, Nat.add_mul, Nat.one_mul]; omega
      have hfit : Nat.ble (0 + (n + 1) * esz) (cs ++ rest).length = true := by
        rw [natBle, decide_eq_true_eq, List.length_append, hlen, hr, Nat.add_mul, Nat.add_mul, Nat.one_mul]; omega
      obtain ⟨r1, r2, rfl, hr1⟩ : ∃ r1 r2, rest = r1 ++ r2 ∧ r1.length = esz := ⟨rest.take esz, rest.drop esz, (List.take_append_drop _ _).symm, by rw [List.length_take, hr, Nat.add_mul, Nat.one_mul]; omega⟩
      have hov : over (cs ++ (r1 ++ r2)) (0 + n * esz) news = some (cs ++ news ++ r2) := by
        rw [← List.append_assoc, Nat.zero_add, ← hlen]; exact over_mid _ _ _ _ (by omega)
      refine ⟨.slice b 0 (n + 1) (.upTo esz), w.turn b (.cells (cs ++ news ++ r2) sh), fun x => S x ∧ x < w.next, ?_, ?_, turn_frm hS hs, ?_⟩
      · simp only [AW.appendUp, hx, hne, hfit, store_shr hx hs h1 hov]
      · refine .blk (r := r) ⟨hS, hbw⟩ hbw T.get_put_same (by rw [List.length_append, hlen, hl, Nat.add_mul, Nat.one_mul]) ?_ he (by omega) ?_
        · rw [List.length_append, hr1, Nat.add_mul, Nat.one_mul] at hr; omega
        · rcases turn_shr (l := cs ++ news ++ r2) hbw hs with rfl | rfl | ⟨f, F, rfl, q1, q2, q3⟩
          · exact .inl rfl
          · exact .inr (.inl rfl)
          · exact .inr (.inr ⟨f, F, rfl, ⟨q1, q2⟩, q2, q3⟩)
      · rintro x ⟨q1, q2⟩; exact ⟨q2, .inl q1⟩
    | zero =>
      have hr0 : rest = [] := List.length_eq_zero_iff.1 (by simpa using hr)
      subst hr0
      rw [List.append_nil] at hx
      have hbeq : Nat.beq (0 + n * esz) cs.length = true := by rw [Nat.zero_add, hlen, Nat.beq_refl]
      have fam : ∀ (u : AW) (f : Nat) (F : Fam), w.next ≤ u.next → Frm S w u → u.heap.get b = some (.cells cs (.fam f)) → (S f ∨ w.next ≤ f) → f < u.next → b < u.next → u.fams.get f = some F → F.last = b → F.floor ≤ u.next → u.alive b (.fam f) = true →
          ∃ v' w' S', u.appendFam esz b 0 n 1 news = some (v', w') ∧ Buf S' w' v' esz (n + 1) (cs ++ news) ∧ Frm S w w' ∧ Grown S S' w w' := by
        intro u f F hle hfu hx hSf hfl hbu hF hlast hflo hal
        refine ⟨.slice u.next 0 (n + 1) (.upTo esz), u.grow b f F (cs.drop 0 ++ news), fun x => x = u.next ∨ x = f, ?_, ?_, ?_, ?_⟩
        · simp only [AW.appendFam, hx, hal, hF, hbeq]
        · have hg : (u.grow b f F (cs.drop 0 ++ news)).fams.get f = some ⟨F.keep, F.floor, u.next⟩ := by
            simp only [AW.grow, T.get_putk, if_true, hlast, Nat.beq_refl]
          refine .blk (r := 0) (rest := []) (sh := .fam f) (.inl rfl) (Nat.lt_succ_self _) ?_ ?_ (by simp) he (by omega) (.inr (.inr ⟨f, ⟨F.keep, F.floor, u.next⟩, rfl, .inr rfl, Nat.lt_succ_of_lt hfl, hg, rfl, Nat.le_succ_of_le hflo, ?_⟩))
          · simp only [AW.grow, T.get_putk, if_true, List.drop_zero, List.append_nil]
          · rw [List.length_append, hlen, hl, Nat.add_mul, Nat.one_mul]
          · simp only [AW.alive, hg, Bool.or_eq_true]
            exact .inr (Nat.ble_eq_true_of_le hflo)
        · refine hfu.trans (T := fun x => x = f ∨ u.next ≤ x) ⟨Nat.le_succ _, fun c hc hn => T.get_put_ne (by omega), fun c hc hn => T.get_put_ne fun e => hn (.inl e)⟩ (fun x hx h => h) ?_
          rintro x hx (rfl | h)
          · rcases hSf with h | h
            · exact h
            · omega
          · omega
        · rintro x (rfl | rfl)
          · exact ⟨Nat.lt_succ_self _, .inr hle⟩
          · exact ⟨Nat.lt_succ_of_lt hfl, hSf⟩
      have fnd : sh = .own ∨ sh = .lax → ∃ v' w' S', (w.found b cs).appendFam esz b 0 n 1 news = some (v', w') ∧ Buf S' w' v' esz (n + 1) (cs ++ news) ∧ Frm S w w' ∧ Grown S S' w w' := by
        intro _
        refine fam (w.found b cs) w.next ⟨b, w.next + 1, b⟩ (Nat.le_succ _) ⟨Nat.le_succ _, fun c hc hn => T.get_put_ne fun e => hn (e ▸ hS), fun c hc hn => T.get_put_ne (by omega)⟩ T.get_put_same (.inr (Nat.le_refl _)) (Nat.lt_succ_self _) (Nat.lt_succ_of_lt hbw) T.get_put_same rfl (Nat.le_refl _) ?_
        simp only [AW.alive, AW.found, T.get_putk, if_true, Nat.beq_refl, Bool.true_or]
      simp only [AW.appendUp, hx, hbeq, List.append_nil]
      rcases hs with rfl | rfl | ⟨f, F, rfl, g1, g2, g3, g4, g6, g5⟩
      · exact fnd (.inl rfl)
      · exact fnd (.inr rfl)
      · exact fam w f F (Nat.le_refl _) (Frm.refl _) hx (.inl g1) g2 hbw g3 g4 g6 g5
theorem Buf.push {S : Nat → Prop} {w : AW} {v : V} {esz n bytes : Nat} {cs news : List V} (h : Buf S w v esz n cs) (hS : ∀ b, S b → b < w.next) (he : 0 < esz) (hl : news.length = esz) (h1 : allOne news = true) (hb : (n + 1) * bytes ≤ 70368744177664) (hb' : n + 1 ≤ 70368744177664) :
    ∃ v' w' S', (w.fresh news).appendV esz bytes v 1 news = some (v', w') ∧ Buf S' w' v' esz (n + 1) (cs ++ news) ∧ Frm S w w' ∧ Grown S S' w w' := by
  have hx : Frm (fun _ => False) w (w.fresh news) := Frm.new _ _
  obtain ⟨v', w', S', h2, h3, h4, h5⟩ := (h.frm hx fun _ _ h => h).add (news := news) (bytes := bytes) he hl h1 hb hb'
  refine ⟨v', w', S', h2, h3, hx.trans h4 (fun _ _ h => h.elim) fun _ _ h => h, fun b hb => ?_⟩
  obtain ⟨q1, q2⟩ := h5 b hb
  exact ⟨q1, q2.imp id fun h => Nat.le_trans hx.next h⟩
theorem Buf.insert {S : Nat → Prop} {w : AW} {b n bytes i bv : Nat} {cs : List V} {x : V} (h : Buf S w (.slice b 0 n (.upTo 1)) 1 n cs) (hi : i < n) (hv : w.heap.get bv = some (.cells [x] .own)) (hne : bv ≠ b) (h1 : x.one = true) (h2 : allOne cs = true) (hb : (n + 1) * bytes ≤ 70368744177664) (hb' : n + 1 ≤ 70368744177664) {k : Nat} :
    ∃ v' w' S', insPrim bytes [.slice b 0 n (.upTo 1), .int .i64 (.ofNat i), .slice bv 0 1 (.known k)] w = some (v', w') ∧ Buf S' w' v' 1 (n + 1) (cs.take i ++ [x] ++ cs.drop i) ∧ Frm S w w' ∧ Grown S S' w w' := by
  have hcl := h.len
  rw [Nat.mul_one] at hcl
  have hld := h.load (o := 0) (k := n) (by omega)
  rw [List.drop_zero, List.take_of_length_le (by omega)] at hld
  have hvl : w.load bv 0 1 = some [x] := by simp only [AW.load, hv, AW.alive, List.drop_zero, takeN]
  have hbv : Nat.beq bv b = false := by rw [natBeq, decide_eq_false hne]
  have hone : allOne [x] = true := by simp [allOne, h1]
  cases h with
  | @blk _ _ _ r _ rest sh hS hbw hx hlen hr he' hn hs =>
    have fam : ∀ (u : AW) (f : Nat), w.next ≤ u.next → Frm S w u → u.heap.get b = some (.cells (cs ++ rest) (.fam f)) → (S f ∨ w.next ≤ f) → f < u.next →
        ∃ v' w' S', u.insFam b n 1 (cs.take i ++ [x] ++ cs.drop i) = some (v', w') ∧ Buf S' w' v' 1 (n + 1) (cs.take i ++ [x] ++ cs.drop i) ∧ Frm S w w' ∧ Grown S S' w w' := by
      intro u f hle hfu hx hSf hfl
      refine ⟨.slice u.next 0 (n + 1) (.upTo 1), u.reborn f (cs.take i ++ [x] ++ cs.drop i), fun x => x = u.next, ?_, ?_, ?_, ?_⟩
      · simp only [AW.insFam, hx]
      · refine .blk (r := 0) (rest := []) (sh := .lax) rfl (Nat.lt_succ_self _) (by rw [List.append_nil]; exact T.get_put_same) ?_ (by simp) (by omega) (by omega) (.inr (.inl rfl))
        simp only [List.length_append, List.length_take, List.length_drop, List.length_cons, List.length_nil]; omega
      · refine hfu.trans (T := fun x => x = f ∨ u.next ≤ x) ⟨Nat.le_succ _, fun c hc hn => T.get_put_ne (by omega), fun c hc hn => T.get_put_ne fun e => hn (.inl e)⟩ (fun x hx h => h) ?_
        rintro x hx (rfl | h)
        · rcases hSf with h | h
          · exact h
          · omega
        · omega
      · rintro x rfl
        exact ⟨Nat.lt_succ_self _, .inr hle⟩
    have fnd : (w.found b (cs ++ rest)).alive b (.fam w.next) = true ∧ ∃ v' w' S', (w.found b (cs ++ rest)).insFam b n 1 (cs.take i ++ [x] ++ cs.drop i) = some (v', w') ∧ Buf S' w' v' 1 (n + 1) (cs.take i ++ [x] ++ cs.drop i) ∧ Frm S w w' ∧ Grown S S' w w' :=
      ⟨by simp only [AW.alive, AW.found, T.get_putk, if_true, Nat.beq_refl, Bool.true_or],
        fam _ w.next (Nat.le_succ _) ⟨Nat.le_succ _, fun c hc hn => T.get_put_ne fun e => hn (e ▸ hS), fun c hc hn => T.get_put_ne (by omega)⟩ T.get_put_same (.inr (Nat.le_refl _)) (Nat.lt_succ_self _)⟩
    have e1 : Nat.blt i n = true := by rw [natBlt, decide_eq_true hi]
    have e2 : Nat.blt 0 1 = true := rfl
    have e3 : Nat.ble ((n + 1) * bytes) 70368744177664 = true := Nat.ble_eq_true_of_le hb
    have e4 : Nat.ble (n + 1) 70368744177664 = true := Nat.ble_eq_true_of_le hb'
    rcases hs with rfl | rfl | ⟨f, F, rfl, g1, g2, g3, g4, g6, g5⟩
    · simp only [insPrim, e1, e2, e3, e4, hbv, hv, hvl, hld, hone, h2, hx, fnd.1]; exact fnd.2
    · simp only [insPrim, e1, e2, e3, e4, hbv, hv, hvl, hld, hone, h2, hx, fnd.1]; exact fnd.2
    · simp only [insPrim, e1, e2, e3, e4, hbv, hv, hvl, hld, hone, h2, hx]; exact fam w f (Nat.le_refl _) (Frm.refl _) hx (.inl g1) g2
end Go.AE
set_option linter.unusedVariables false
set_option linter.unusedSectionVars false
set_option linter.unusedSimpArgs false
namespace Go.AE
variable [Globs]
section
variable {tab : Tab}
def mkStp (fr : Fr) (hide : List Nat) (v : V) (a b : AW) : Stp := ⟨hideL fr hide, v, a, b⟩
inductive DS where
  | on (l : List DOper) (fr : Fr) (aw : AW) (acc : List Stp)
def dRun0 : Nat → List DOper → Fr → AW → List Stp → DS
  | 0, l, fr, aw, acc => .on l fr aw acc
  | n + 1, [], fr, aw, acc => .on [] fr aw acc
  | n + 1, d :: l, fr, aw, acc => match wanted (hideL fr d.hide) d.op.guard with
    | some true => match aop d.op.op (hideL fr d.hide) aw with
      | some (.val v, aw1) => dRun0 n l (putO fr d.op.dst v) aw1 (mkStp fr d.hide v aw aw1 :: acc)
      | some (.skip, aw1) => dRun0 n l (putO fr d.op.dst .undef) aw1 (mkStp fr d.hide .undef aw aw1 :: acc)
      | _ => .on (d :: l) fr aw acc
    | some false => dRun0 n l (putO fr d.op.dst .undef) aw (mkStp fr d.hide .undef aw aw :: acc)
    | none => .on (d :: l) fr aw acc
theorem dRunE_ex : ∃ f : Nat → List DOper → Fr → AW → List Stp → DS, f = dRun0 := ⟨_, rfl⟩
@[irreducible] noncomputable def dRunE : Nat → List DOper → Fr → AW → List Stp → DS := Classical.choose dRunE_ex
theorem dRunE_eq : dRunE = dRun0 := by unfold dRunE; exact Classical.choose_spec dRunE_ex
theorem dRunE_nil {n : Nat} {fr : Fr} {aw : AW} {acc : List Stp} : dRunE (n + 1) [] fr aw acc = .on [] fr aw acc := by rw [dRunE_eq]; rfl
theorem dRunE_cons {n : Nat} {d : DOper} {l : List DOper} {fr : Fr} {aw : AW} {acc : List Stp} : dRunE (n + 1) (d :: l) fr aw acc = match wanted (hideL fr d.hide) d.op.guard with
    | some true => match aop d.op.op (hideL fr d.hide) aw with
      | some (.val v, aw1) => dRunE n l (putO fr d.op.dst v) aw1 (mkStp fr d.hide v aw aw1 :: acc)
      | some (.skip, aw1) => dRunE n l (putO fr d.op.dst .undef) aw1 (mkStp fr d.hide .undef aw aw1 :: acc)
      | _ => .on (d :: l) fr aw acc
    | some false => dRunE n l (putO fr d.op.dst .undef) aw (mkStp fr d.hide .undef aw aw :: acc)
    | none => .on (d :: l) fr aw acc := by rw [dRunE_eq]; rfl
end
theorem over_cell : ∀ (l : List V) (i : Nat) (v : V), i < l.length → over l i [v] = some (l.set i v)
  | [], i, v, h => by simp at h
  | x :: l, 0, v, h => by simp [over]
  | x :: l, i + 1, v, h => by simp only [over, over_cell l i v (by simpa using h), List.set_cons_succ]
theorem store_cell {w : AW} {b i : Nat} {l : List V} {v : V} (hx : w.heap.get b = some (.cells l .own)) (hi : i < l.length) (hv : v.one = true) : w.store b i [v] = some (w.turn b (.cells (l.set i v) .own)) := by
  simp only [AW.store, hx, AW.alive, allOne, hv, over_cell l i v hi]
theorem cells_int {k : IntKind} {n : Int} : (V.int k n).cells = [.int k n] := rfl
theorem cells_bool {b : Bool} : (V.bool b).cells = [.bool b] := rfl
theorem cells_str {l : List Nat} : (V.str l).cells = [.str l] := rfl
theorem cells_agg {l : List V} : (V.agg l).cells = l := rfl
theorem cells_slice {b o n : Nat} {c : Cap} : (V.slice b o n c).cells = [.slice b o n c] := rfl
theorem cells_nilslice : V.nilslice.cells = [.nilslice] := rfl
theorem cells_ptr {b o : Nat} : (V.ptr b o).cells = [.ptr b o] := rfl
theorem cells_nilptr : V.nilptr.cells = [.nilptr] := rfl
theorem ne_ff : (false != false) = false := rfl
theorem ne_ft : (false != true) = true := rfl
theorem ne_tf : (true != false) = true := rfl
theorem ne_tt : (true != true) = false := rfl
attribute [go_sem] dRunE_nil dRunE_cons ne_ff ne_ft ne_tf ne_tt cells_int cells_bool cells_str cells_agg cells_slice cells_nilslice cells_ptr cells_nilptr
end Go.AE
set_option linter.unusedVariables false
set_option linter.unusedSectionVars false
set_option linter.unusedSimpArgs false
namespace Go.AE
variable [Globs]
end Go.AE
set_option linter.unusedVariables false
set_option linter.unusedSectionVars false
set_option linter.unusedSimpArgs false
namespace Go.AE
variable [Globs]
theorem resOne_nil : resOne [] = .tuple [] := rfl
attribute [go_sem] resOne_nil Nat.add_zero
def Al (T : Nat → Prop) (w : AW) (b : Nat) (sh : Share) : Prop :=
  sh = .own ∨ sh = .lax ∨ sh = .ro ∨ ∃ f F, sh = .fam f ∧ T f ∧ f < w.next ∧ w.fams.get f = some F ∧ w.alive b sh = true
theorem Al.alive {T : Nat → Prop} {w : AW} {b : Nat} {sh : Share} (h : Al T w b sh) : w.alive b sh = true := by
  rcases h with rfl | rfl | rfl | ⟨f, F, rfl, h1, h2, h3, h4⟩
  · rfl
  · rfl
  · rfl
  · exact h4
theorem Al.frm {T S : Nat → Prop} {w w' : AW} {b : Nat} {sh : Share} (h : Al T w b sh) (hf : Frm S w w') (hd : ∀ x, T x → ¬ S x) : Al T w' b sh := by
  rcases h with rfl | rfl | rfl | ⟨f, F, rfl, h1, h2, h3, h4⟩
  · exact .inl rfl
  · exact .inr (.inl rfl)
  · exact .inr (.inr (.inl rfl))
  · have e := hf.fams f h2 (hd f h1)
    refine .inr (.inr (.inr ⟨f, F, rfl, h1, Nat.lt_of_lt_of_le h2 hf.next, e.trans h3, ?_⟩))
    simp only [AW.alive, h3, e.trans h3] at h4 ⊢
    exact h4
theorem Al.mono {T T' : Nat → Prop} {w : AW} {b : Nat} {sh : Share} (h : Al T w b sh) (ht : ∀ x, T x → T' x) : Al T' w b sh := by
  rcases h with rfl | rfl | rfl | ⟨f, F, rfl, h1, h2⟩
  · exact .inl rfl
  · exact .inr (.inl rfl)
  · exact .inr (.inr (.inl rfl))
  · exact .inr (.inr (.inr ⟨f, F, rfl, ht f h1, h2⟩))
def CapFit (esz n : Nat) : Cap → Prop
  | .known k => n ≤ k
  | .upTo z => z = esz ∨ n = 0
inductive Rd (T : Nat → Prop) (w : AW) : V → Nat → Nat → List V → Prop
  | nil {esz : Nat} : Rd T w .nilslice esz 0 []
  | blk {b o n esz : Nat} {c : Cap} {l cs : List V} {sh : Share} (hT : T b) (hb : b < w.next) (hx : w.heap.get b = some (.cells l sh)) (ha : Al T w b sh) (hl : o + n * esz ≤ l.length) (hcs : cs = (l.drop o).take (n * esz)) (hc : CapFit esz n c) : Rd T w (.slice b o n c) esz n cs
theorem Rd.len {T : Nat → Prop} {w : AW} {v : V} {esz n : Nat} {cs : List V} (h : Rd T w v esz n cs) : cs.length = n * esz := by
  cases h with
  | nil => simp
  | blk hT hb hx ha hl hcs hc => rw [hcs, List.length_take, List.length_drop]; omega
theorem Rd.frm {T S : Nat → Prop} {w w' : AW} {v : V} {esz n : Nat} {cs : List V} (h : Rd T w v esz n cs) (hf : Frm S w w') (hd : ∀ x, T x → ¬ S x) : Rd T w' v esz n cs := by
  cases h with
  | nil => exact .nil
  | blk hT hb hx ha hl hcs hc => exact .blk hT (Nat.lt_of_lt_of_le hb hf.next) ((hf.heap _ hb (hd _ hT)).trans hx) (ha.frm hf hd) hl hcs hc
theorem Rd.mono {T T' : Nat → Prop} {w : AW} {v : V} {esz n : Nat} {cs : List V} (h : Rd T w v esz n cs) (ht : ∀ x, T x → T' x) : Rd T' w v esz n cs := by
  cases h with
  | nil => exact .nil
  | blk hT hb hx ha hl hcs hc => exact .blk (ht _ hT) hb hx (ha.mono ht) hl hcs hc
structure RdB (T : Nat → Prop) (w : AW) (b o n esz : Nat) (c : Cap) (cs : List V) : Prop where
  own : T b
  lt : b < w.next
  fit : CapFit esz n c
  load : ∀ i k, i + k ≤ n * esz → w.load b (o + i) k = some ((cs.drop i).take k)
  get : ∃ l sh, w.heap.get b = some (.cells l sh) ∧ w.alive b sh = true
theorem Rd.inv {T : Nat → Prop} {w : AW} {v : V} {esz n : Nat} {cs : List V} (h : Rd T w v esz n cs) : (v = .nilslice ∧ n = 0 ∧ cs = []) ∨ ∃ b o c, v = .slice b o n c ∧ RdB T w b o n esz c cs := by
  cases h with
  | nil => exact .inl ⟨rfl, rfl, rfl⟩
  | @blk b o _ _ c l _ sh hT hb hx ha hl hcs hc =>
    refine .inr ⟨b, o, c, rfl, ⟨hT, hb, hc, fun i k hik => ?_, l, sh, hx, ha.alive⟩⟩
    simp only [AW.load, hx, ha.alive]
    rw [takeN_some _ _ (by simp; omega), hcs]
    congr 1
    rw [List.drop_take, List.take_take, List.drop_drop, Nat.min_eq_left (by omega)]
theorem RdB.cell {T : Nat → Prop} {w : AW} {b o n esz : Nat} {c : Cap} {cs : List V} (h : RdB T w b o n esz c cs) {i : Nat} {x : V} (hi : i < n * esz) (hx : cs[i]? = some x) : w.load b (o + i) 1 = some [x] := by
  rw [h.load i 1 (by omega)]
  have hlt : i < cs.length := (List.getElem?_eq_some_iff.1 hx).1
  rw [List.drop_eq_getElem_cons hlt]
  rw [List.getElem?_eq_getElem hlt] at hx
  rw [Option.some.inj hx]; rfl
theorem flat_at {α : Type} {r : α → List V → Prop} {sz : Nat} (hsz : ∀ a xs, r a xs → xs.length = sz) : ∀ {l : List α} {xss : List (List V)}, All2 r l xss → ∀ {i : Nat} {a : α}, l[i]? = some a → ∃ xs, r a xs ∧ (xss.flatten.drop (i * sz)).take sz = xs
  | [], _, .nil, i, a, h => by simp at h
  | x :: l, y :: m, .cons h1 h2, 0, a, h => by
    simp at h; subst h
    refine ⟨y, h1, ?_⟩
    rw [Nat.zero_mul, List.drop_zero, List.flatten_cons, ← hsz _ _ h1, List.take_left']
    rfl
  | x :: l, y :: m, .cons h1 h2, i + 1, a, h => by
    obtain ⟨xs, q1, q2⟩ := flat_at hsz h2 (i := i) (a := a) (by simpa using h)
    refine ⟨xs, q1, ?_⟩
    have hy := hsz _ _ h1
    rw [List.flatten_cons, Nat.add_mul, Nat.one_mul, Nat.add_comm (i * sz), ← List.drop_drop, ← hy, List.drop_left' rfl, hy]
    exact q2
def RdL {α : Type} (r : AW → α → List V → Prop) (T : Nat → Prop) (w : AW) (v : V) (esz : Nat) (l : List α) : Prop := ∃ xss, Rd T w v esz l.length xss.flatten ∧ All2 (r w) l xss
theorem RdL.inv {α : Type} {r : AW → α → List V → Prop} {T : Nat → Prop} {w : AW} {v : V} {esz : Nat} {l : List α} (h : RdL r T w v esz l) (hsz : ∀ a xs, r w a xs → xs.length = esz) :
    (v = .nilslice ∧ l = []) ∨ ∃ b o c, v = .slice b o l.length c ∧ T b ∧ b < w.next ∧ CapFit esz l.length c ∧ ∀ i a, l[i]? = some a → ∃ xs, r w a xs ∧ ∀ j k, j + k ≤ esz → w.load b (o + i * esz + j) k = some ((xs.drop j).take k) := by
  obtain ⟨xss, h1, h2⟩ := h
  rcases h1.inv with ⟨q1, q2, q3⟩ | ⟨b, o, c, rfl, hB⟩
  · exact .inl ⟨q1, List.length_eq_zero_iff.1 q2⟩
  · refine .inr ⟨b, o, c, rfl, hB.own, hB.lt, hB.fit, fun i a hi => ?_⟩
    obtain ⟨xs, q1, q2⟩ := flat_at hsz h2 hi
    refine ⟨xs, q1, fun j k hjk => ?_⟩
    have hlt : i < l.length := (List.getElem?_eq_some_iff.1 hi).1
    have hle : (i + 1) * esz ≤ l.length * esz := Nat.mul_le_mul_right _ hlt
    rw [Nat.add_mul, Nat.one_mul] at hle
    rw [Nat.add_assoc, hB.load (i * esz + j) k (by omega), ← q2, List.drop_take, List.take_take, Nat.min_eq_left (by omega), List.drop_drop]
theorem RdL.frm {α : Type} {r : AW → α → List V → Prop} {T S : Nat → Prop} {w w' : AW} {v : V} {esz : Nat} {l : List α} (h : RdL r T w v esz l) (hr : ∀ a xs, r w a xs → r w' a xs) (hf : Frm S w w') (hd : ∀ x, T x → ¬ S x) : RdL r T w' v esz l := by
  obtain ⟨xss, h1, h2⟩ := h
  exact ⟨xss, h1.frm hf hd, h2.imp hr⟩
theorem RdL.mono {α : Type} {r r' : AW → α → List V → Prop} {T T' : Nat → Prop} {w : AW} {v : V} {esz : Nat} {l : List α} (h : RdL r T w v esz l) (hr : ∀ a xs, r w a xs → r' w a xs) (ht : ∀ x, T x → T' x) : RdL r' T' w v esz l := by
  obtain ⟨xss, h1, h2⟩ := h
  exact ⟨xss, h1.mono ht, h2.imp hr⟩
theorem Rd.elems {T : Nat → Prop} {w : AW} {v : V} {esz n : Nat} {cs : List V} (h : Rd T w v esz n cs) : w.elems esz v = some (n, cs) := by
  have hlen := h.len
  rcases h.inv with ⟨rfl, rfl, rfl⟩ | ⟨b, o, c, rfl, hB⟩
  · rfl
  · cases n with
    | zero =>
      have : cs = [] := List.length_eq_zero_iff.1 (by omega)
      subst this; rfl
    | succ n =>
      have := hB.load 0 ((n + 1) * esz) (by omega)
      rw [Nat.add_zero, List.drop_zero, List.take_of_length_le (by omega)] at this
      simp only [AW.elems, this]
theorem Rd.lenV {T : Nat → Prop} {w : AW} {v : V} {esz n : Nat} {cs : List V} (h : Rd T w v esz n cs) : lenV v = some n := by cases h <;> rfl
theorem Buf.lenV {S : Nat → Prop} {w : AW} {v : V} {esz n : Nat} {cs : List V} (h : Buf S w v esz n cs) : lenV v = some n := by cases h <;> rfl
structure CB (w : AW) (b : Nat) (l : List V) : Prop where
  lt : b < w.next
  get : w.heap.get b = some (.cells l .own)
theorem CB.frm {S : Nat → Prop} {w w' : AW} {b : Nat} {l : List V} (h : CB w b l) (hf : Frm S w w') (hn : ¬ S b) : CB w' b l := ⟨Nat.lt_of_lt_of_le h.lt hf.next, (hf.heap b h.lt hn).trans h.get⟩
theorem CB.load {w : AW} {b : Nat} {l : List V} (h : CB w b l) (o n : Nat) : w.load b o n = takeN n (l.drop o) := by simp only [AW.load, h.get]; rfl
theorem CB.all {w : AW} {b n : Nat} {l : List V} (h : CB w b l) (hn : l.length = n) : w.load b 0 n = some l := by rw [h.load, List.drop_zero]; exact takeN_all _ _ hn
def AW.put (w : AW) (b : Nat) (l : List V) : AW := w.turn b (.cells l .own)
theorem CB.set {w : AW} {b i : Nat} {l : List V} {v : V} (h : CB w b l) (hi : i < l.length) (hv : v.one = true) : w.store b i [v] = some (w.put b (l.set i v)) := store_cell h.get hi hv
theorem Frm.tr {S : Nat → Prop} {a b c : AW} (h : Frm S a b) (h' : Frm S b c) : Frm S a c := h.trans h' (fun _ _ h => h) fun _ _ h => h
theorem Frm.no {S : Nat → Prop} {a b : AW} (h : Frm (fun _ => False) a b) : Frm S a b := h.mono fun _ _ h => h.elim
theorem All2.cells {α : Type} {r : α → List V → Prop} {l : List α} {xss : List (List V)} {a : α} {xs : List V} (h : All2 r l xss) (hx : r a xs) : All2 r (l ++ [a]) (xss ++ [xs]) ∧ (xss ++ [xs]).flatten = xss.flatten ++ xs := ⟨h.snoc hx, by simp⟩
end Go.AE
set_option linter.unusedVariables false
namespace Go.AE
open Go.RowKit Go.ChangeShapes
variable [Globs]
end Go.AE
namespace Go
variable {H : Type} {enc : TypeId × Value → H}
theorem returns_and_shaped {a : Assume} {C : Checked} {os : Os} {f : FuncId} {fn : Func} {s : ChangeSpec} {conds : List PathCond} {apart fresh handsOn again : Bool} {X : World → Array Value → Prop}
    (hX : ∀ (w w' : World) (args : Array Value), w.heap = w'.heap → X w args → X w' args)
    (own : ownKnob C.prog.godebug = none) (started : os.Started) (noInit : C.prog.inits.idxOf? f = none) (hfn : C.prog.funcs[f]? = some fn)
    (witness : ∃ (w : World) (tape : Tape) (i : Input), w.os = os ∧ (w.forCall tape i).Shaped C.prog ∧ i.vars = [] ∧ Input.okWide C.prog (w.forCall tape i) .any w.heap.size f i ∧
      ((s.pre enc C.prog fn conds apart (w.forCall tape i).memory i.args ∧ X (w.forCall tape i).memory i.args) ∧ sizedMet enc C.prog fn (OpenSpec.ofChange s) apart (w.forCall tape i).memory i.args) ∧ a.holds C.prog (lone (Frame.enter C.prog f i.args .normal) [] (w.forCall tape i)))
    (contract : ∀ (W : World) (base : Nat) (args : Array Value) (ds gs : List (DataW H)) (before : List MemPlace),
      (∀ (j : Nat) t v, fn.params[j]? = some t → args[j]? = some v → Value.okWide C.prog W .any base t v) →
      DataW.Whole enc C.prog fn.params.toList s.vars apart W args.toList ds gs before →
      conds.all (PathCond.test C.prog ⟨fn.params.toList, ds, s.plain.varTypes C.prog, gs⟩) = true →
      (DataW.weightsEach C.prog (fn.params.toList ++ s.plain.varTypes C.prog) (ds ++ gs)).all (· ≤ reachBytes) = true → X W args →
      W.ShapedOpen C.prog →
      a.holds C.prog (lone (Frame.enter C.prog f args .normal) [] W) →
      Calls C.prog f args W fun e W' => ∃ v, e = .returned v ∧ s.post enc C.prog fn apart fresh handsOn again W args v W') :
    ReturnsInHanded a C os f .any (fun w args => (s.pre enc C.prog fn conds apart w args ∧ X w args) ∧ sizedMet enc C.prog fn (OpenSpec.ofChange s) apart w args) (s.post enc C.prog fn apart fresh handsOn again) := by
  refine returnsInHanded_of_calls own started noInit witness ?_
  intro w tape i _ hsh _ hok hpre hholds
  obtain ⟨_, _, _, fn', hfn', _, _, _, _, hval⟩ := hok
  have e : fn' = fn := Option.some.inj (hfn'.symm.trans hfn)
  subst e
  obtain ⟨⟨⟨ds, gs, before, hw, hc⟩, hx⟩, hz⟩ := hpre
  have hw' := DataW.Whole.of_heap (w' := w.forCall tape i) (by rfl) hw
  refine (contract (w.forCall tape i) w.heap.size i.args ds gs before hval hw' hc (hz.weights hw) (hX _ _ _ (by rfl) hx) hsh hholds).mono fun e W' ⟨v, he, hp⟩ => ?_
  subst he
  exact ChangeSpec.post_blind hp
end Go
