/- A part of the proof: W2, W3, Ae31, Ae32, PLex, PLex2, PLex3. -/
import Derived.Test.YtjidefnbancmfaaKpG
import Derived.Test.YtjidefnbancmfaaKpE
import Derived.Lib.Bytealg
import Derived.Test.YtjidefnbancmfaaKpA
set_option linter.unusedVariables false
set_option linter.unusedSimpArgs false
namespace Go.AE
inductive SI where
  | code (c : ACode)
  | ops (l : List AOper)
  | endB (id : Nat)
section
variable {tab : Tab}
/-- what is to be when the top of the stack has ended so. -/
def KS (tab : Tab) : List SI → (Fr → AW → Prop) → AExit → Fr → AW → Prop
  | [], Q => fun e f w => match e with
    | .exit _ => False
    | _ => Q f w
  | .endB id :: s, Q => inB id (KS tab s Q)
  | .code c :: s, Q => onw (KS tab s Q) (fun f w => WX tab c f w (KS tab s Q))
  | .ops l :: s, Q => onw (KS tab s Q) (fun f w => WO tab l f w (fun f w => KS tab s Q .normal f w))
def WS (tab : Tab) (s : List SI) (fr : Fr) (aw : AW) (Q : Fr → AW → Prop) : Prop := KS tab s Q .normal fr aw
def popTo (id : Nat) : List SI → Option (List SI)
  | [] => none
  | .endB id' :: s => if id = id' then some s else popTo id s
  | .code _ :: s => popTo id s
  | .ops _ :: s => popTo id s
theorem KS_ret {Q : Fr → AW → Prop} {f : Fr} {w : AW} (h : Q f w) : ∀ {s : List SI}, KS tab s Q .ret f w
  | [] => h
  | .endB id :: s => KS_ret (s := s) h
  | .code c :: s => KS_ret (s := s) h
  | .ops l :: s => KS_ret (s := s) h
theorem KS_exit {id : Nat} {Q : Fr → AW → Prop} {f : Fr} {w : AW} : ∀ {s s' : List SI}, popTo id s = some s' → WS tab s' f w Q → KS tab s Q (.exit id) f w
  | [], s', h, _ => by cases h
  | .endB id' :: s, s', h, hw => by
    simp only [popTo] at h
    split at h
    · rename_i hb
      subst hb
      cases h
      simp only [KS, inB, if_pos]
      exact hw
    · rename_i hb
      simp only [KS, inB, if_neg hb]
      exact KS_exit h hw
  | .code c :: s, s', h, hw => KS_exit (s := s) h hw
  | .ops l :: s, s', h, hw => KS_exit (s := s) h hw

theorem WS_nil {fr : Fr} {aw : AW} {Q : Fr → AW → Prop} (h : Q fr aw) : WS tab [] fr aw Q := h
theorem WS_endB {id : Nat} {s : List SI} {fr : Fr} {aw : AW} {Q : Fr → AW → Prop} (h : WS tab s fr aw Q) : WS tab (.endB id :: s) fr aw Q := h
theorem WS_skip {s : List SI} {fr : Fr} {aw : AW} {Q : Fr → AW → Prop} (h : WS tab s fr aw Q) : WS tab (.code .skip :: s) fr aw Q := by
  show WX tab .skip fr aw _; rw [WX_skip]; exact h
theorem WS_seq {a b : ACode} {s : List SI} {fr : Fr} {aw : AW} {Q : Fr → AW → Prop} (h : WS tab (.code a :: .code b :: s) fr aw Q) : WS tab (.code (.seq a b) :: s) fr aw Q := by
  show WX tab (.seq a b) fr aw _; rw [WX_seq]; exact h
theorem WS_block {id : Nat} {b : ACode} {s : List SI} {fr : Fr} {aw : AW} {Q : Fr → AW → Prop} (h : WS tab (.code b :: .endB id :: s) fr aw Q) : WS tab (.code (.block id b) :: s) fr aw Q := by
  show WX tab (.block id b) fr aw _; rw [WX_block]; exact h
theorem WS_scope {b : ACode} {s : List SI} {fr : Fr} {aw : AW} {Q : Fr → AW → Prop} (h : WS tab (.code b :: s) fr aw Q) : WS tab (.code (.scope b) :: s) fr aw Q := by
  show WX tab (.scope b) fr aw _; rw [WX_scope]; exact h
theorem WS_region {l : List AOper} {s : List SI} {fr : Fr} {aw : AW} {Q : Fr → AW → Prop} (h : WS tab (.ops l :: s) fr aw Q) : WS tab (.code (.region l) :: s) fr aw Q := by
  show WX tab (.region l) fr aw _; rw [WX_region]; exact h
theorem WS_exit {id : Nat} {s s' : List SI} {fr : Fr} {aw : AW} {Q : Fr → AW → Prop} (hp : popTo id s = some s') (h : WS tab s' fr aw Q) : WS tab (.code (.exit id) :: s) fr aw Q := by
  show WX tab (.exit id) fr aw _; rw [WX_exit]; exact KS_exit hp h
theorem WS_ret {s : List SI} {fr : Fr} {aw : AW} {Q : Fr → AW → Prop} (h : Q fr aw) : WS tab (.code .ret :: s) fr aw Q := by
  show WX tab .ret fr aw _; rw [WX_ret]; exact KS_ret h
theorem WS_loop1 {b : ACode} {s : List SI} {fr : Fr} {aw : AW} {Q : Fr → AW → Prop} (h : WS tab (.code b :: .code (.loop b) :: s) fr aw Q) : WS tab (.code (.loop b) :: s) fr aw Q := by
  show WX tab (.loop b) fr aw _; rw [WX_loop]; exact h
/-- a loop: what holds at its head, at what measure. -/
theorem WS_loop {b : ACode} {s : List SI} {Q : Fr → AW → Prop} (I : Nat → Fr → AW → Prop)
    (step : ∀ n f w, I n f w → (∀ n' f' w', n' < n → I n' f' w' → WS tab (.code (.loop b) :: s) f' w' Q) → WS tab (.code b :: .code (.loop b) :: s) f w Q) :
    ∀ (n : Nat) {fr : Fr} {aw : AW}, I n fr aw → WS tab (.code (.loop b) :: s) fr aw Q := by
  intro n
  induction n using Nat.strongRecOn with
  | ind n ih => intro fr aw hI; exact WS_loop1 (step n fr aw hI fun n' f' w' h1 h2 => ih n' h1 h2)
theorem WS_cond {c : Opd} {a b : ACode} {s : List SI} {fr : Fr} {aw : AW} {Q : Fr → AW → Prop} {t : Bool} (hc : c.ev fr = some (.bool t)) (h1 : t = true → WS tab (.code a :: s) fr aw Q) (h2 : t = false → WS tab (.code b :: s) fr aw Q) : WS tab (.code (.cond c a b) :: s) fr aw Q := by
  show WX tab (.cond c a b) fr aw _; rw [WX_cond, hc]
  exact condK_of h1 h2
theorem WS_condT {c : Opd} {a b : ACode} {s : List SI} {fr : Fr} {aw : AW} {Q : Fr → AW → Prop} (hc : c.ev fr = some (.bool true)) (h1 : WS tab (.code a :: s) fr aw Q) : WS tab (.code (.cond c a b) :: s) fr aw Q :=
  WS_cond hc (fun _ => h1) (fun h => by cases h)
theorem WS_condF {c : Opd} {a b : ACode} {s : List SI} {fr : Fr} {aw : AW} {Q : Fr → AW → Prop} (hc : c.ev fr = some (.bool false)) (h1 : WS tab (.code b :: s) fr aw Q) : WS tab (.code (.cond c a b) :: s) fr aw Q :=
  WS_cond hc (fun h => by cases h) (fun _ => h1)
theorem WS_opsNil {s : List SI} {fr : Fr} {aw : AW} {Q : Fr → AW → Prop} (h : WS tab s fr aw Q) : WS tab (.ops [] :: s) fr aw Q := by
  show WO tab [] fr aw _; rw [WO_nil]; exact h
theorem WS_val {o : AOper} {l : List AOper} {s : List SI} {fr : Fr} {aw aw1 : AW} {v : V} {Q : Fr → AW → Prop} (hw : wanted fr o.guard = some true) (ha : aop o.op fr aw = some (.val v, aw1)) (h : WS tab (.ops l :: s) (putO fr o.dst v) aw1 Q) : WS tab (.ops (o :: l) :: s) fr aw Q := by
  show WO tab (o :: l) fr aw _; rw [WO_cons, W1_eq, hw, ha]; exact h
theorem WS_eff {o : AOper} {l : List AOper} {s : List SI} {fr : Fr} {aw aw1 : AW} {Q : Fr → AW → Prop} (hw : wanted fr o.guard = some true) (ha : aop o.op fr aw = some (.skip, aw1)) (h : WS tab (.ops l :: s) (putO fr o.dst .undef) aw1 Q) : WS tab (.ops (o :: l) :: s) fr aw Q := by
  show WO tab (o :: l) fr aw _; rw [WO_cons, W1_eq, hw, ha]; exact h
theorem WS_pass {o : AOper} {l : List AOper} {s : List SI} {fr : Fr} {aw : AW} {Q : Fr → AW → Prop} (hw : wanted fr o.guard = some false) (h : WS tab (.ops l :: s) (putO fr o.dst .undef) aw Q) : WS tab (.ops (o :: l) :: s) fr aw Q := by
  show WO tab (o :: l) fr aw _; rw [WO_cons, W1_eq, hw]; exact h
theorem WS_call {o : AOper} {l : List AOper} {s : List SI} {fr : Fr} {aw aw1 : AW} {f : Nat} {args : List V} {Q : Fr → AW → Prop} (hw : wanted fr o.guard = some true) (ha : aop o.op fr aw = some (.call f args, aw1)) (h : WF tab f args aw1 (fun v w => WS tab (.ops l :: s) (putO fr o.dst v) w Q)) : WS tab (.ops (o :: l) :: s) fr aw Q := by
  show WO tab (o :: l) fr aw _; rw [WO_cons, W1_eq, hw, ha]; exact .inl h
theorem WF_of {f : Nat} {args : List V} {aw : AW} {K : V → AW → Prop} {af : AFun} (hc : tab.code f = some af) (hn : Nat.ble args.length af.ntmps = true)
    (h : WS tab [.code af.body] (initFr args 0) aw (fun fr' aw' => ∃ vs, resV fr' aw' af.results = some vs ∧ K (resOne vs) aw')) : WF tab f args aw K := by
  refine WF_code hc (Nat.le_of_ble_eq_true hn) (WX.mono h ?_)
  intro e f w hk
  cases e with
  | normal => exact ⟨.inl rfl, hk⟩
  | ret => exact ⟨.inr rfl, hk⟩
  | exit id => exact hk.elim

inductive RS where
  | on (s : List SI) (fr : Fr) (aw : AW)
  | none
/-- as far as nothing is open: the stack, the frame, the memory behind it. -/
def eRun0 : Nat → List SI → Fr → AW → RS
  | 0, s, fr, aw => RS.on s fr aw
  | n + 1, [], fr, aw => RS.on [] fr aw
  | n + 1, .endB _ :: s, fr, aw => eRun0 n s fr aw
  | n + 1, .ops [] :: s, fr, aw => eRun0 n s fr aw
  | n + 1, .ops (o :: l) :: s, fr, aw => match wanted fr o.guard with
    | some true => match aop o.op fr aw with
      | some (.val v, aw1) => eRun0 n (.ops l :: s) (putO fr o.dst v) aw1
      | some (.skip, aw1) => eRun0 n (.ops l :: s) (putO fr o.dst .undef) aw1
      | _ => RS.on (.ops (o :: l) :: s) fr aw
    | some false => eRun0 n (.ops l :: s) (putO fr o.dst .undef) aw
    | none => RS.on (.ops (o :: l) :: s) fr aw
  | n + 1, .code c :: s, fr, aw => match c with
    | .skip => eRun0 n s fr aw
    | .seq a b => eRun0 n (.code a :: .code b :: s) fr aw
    | .block id b => eRun0 n (.code b :: .endB id :: s) fr aw
    | .scope b => eRun0 n (.code b :: s) fr aw
    | .region l => eRun0 n (.ops l :: s) fr aw
    | .exit id => match popTo id s with
      | some s' => eRun0 n s' fr aw
      | none => RS.on (.code (.exit id) :: s) fr aw
    | .cond c a b => match c.ev fr with
      | some (.bool true) => eRun0 n (.code a :: s) fr aw
      | some (.bool false) => eRun0 n (.code b :: s) fr aw
      | _ => RS.on (.code (.cond c a b) :: s) fr aw
    | .loop b => RS.on (.code (.loop b) :: s) fr aw
    | .drawn l => RS.on (.code (.drawn l) :: s) fr aw
    | .ret => RS.on [.code .ret] fr aw
theorem eRun0_at : ∀ (n : Nat) {s : List SI} {fr : Fr} {aw : AW}, eRun0 n s fr aw ≠ RS.none
  | 0, s, fr, aw => by intro h; cases h
  | n + 1, [], fr, aw => by intro h; cases h
  | n + 1, .endB _ :: s, fr, aw => eRun0_at n
  | n + 1, .ops [] :: s, fr, aw => eRun0_at n
  | n + 1, .ops (o :: l) :: s, fr, aw => by
    simp only [eRun0]
    split
    · split
      · exact eRun0_at n
      · exact eRun0_at n
      · intro h; cases h
    · exact eRun0_at n
    · intro h; cases h
  | n + 1, .code c :: s, fr, aw => by
    cases c with
    | skip => exact eRun0_at n
    | seq a b => exact eRun0_at n
    | block id b => exact eRun0_at n
    | scope b => exact eRun0_at n
    | region l => exact eRun0_at n
    | exit id =>
      simp only [eRun0]
      split
      · exact eRun0_at n
      · intro h; cases h
    | cond c a b =>
      simp only [eRun0]
      split
      · exact eRun0_at n
      · exact eRun0_at n
      · intro h; cases h
    | loop b => intro h; cases h
    | drawn l => intro h; cases h
    | ret => intro h; cases h
theorem WS_run0 {Q : Fr → AW → Prop} : ∀ (n : Nat) {s s' : List SI} {fr fr' : Fr} {aw aw' : AW}, eRun0 n s fr aw = RS.on s' fr' aw' → WS tab s' fr' aw' Q → WS tab s fr aw Q
  | 0, s, s', fr, fr', aw, aw', h, hw => by cases h; exact hw
  | n + 1, [], s', fr, fr', aw, aw', h, hw => by cases h; exact hw
  | n + 1, .endB _ :: s, s', fr, fr', aw, aw', h, hw => WS_endB (WS_run0 n h hw)
  | n + 1, .ops [] :: s, s', fr, fr', aw, aw', h, hw => WS_opsNil (WS_run0 n h hw)
  | n + 1, .ops (o :: l) :: s, s', fr, fr', aw, aw', h, hw => by
    simp only [eRun0] at h
    split at h
    · rename_i h1
      split at h
      · rename_i h2; exact WS_val h1 h2 (WS_run0 n h hw)
      · rename_i h2; exact WS_eff h1 h2 (WS_run0 n h hw)
      · cases h; exact hw
    · rename_i h1; exact WS_pass h1 (WS_run0 n h hw)
    · cases h; exact hw
  | n + 1, .code c :: s, s', fr, fr', aw, aw', h, hw => by
    cases c with
    | skip => exact WS_skip (WS_run0 n h hw)
    | seq a b => exact WS_seq (WS_run0 n h hw)
    | block id b => exact WS_block (WS_run0 n h hw)
    | scope b => exact WS_scope (WS_run0 n h hw)
    | region l => exact WS_region (WS_run0 n h hw)
    | exit id =>
      simp only [eRun0] at h
      split at h
      · rename_i h1; exact WS_exit h1 (WS_run0 n h hw)
      · cases h; exact hw
    | cond c a b =>
      simp only [eRun0] at h
      split at h
      · rename_i h1; exact WS_condT h1 (WS_run0 n h hw)
      · rename_i h1; exact WS_condF h1 (WS_run0 n h hw)
      · cases h; exact hw
    | loop b => cases h; exact hw
    | drawn l => cases h; exact hw
    | ret => cases h; have h0 : WX tab .ret fr aw (KS tab [] Q) := hw; rw [WX_ret] at h0; exact WS_ret h0
theorem WS_back {Q : Fr → AW → Prop} : ∀ (n : Nat) {s s' : List SI} {fr fr' : Fr} {aw aw' : AW}, eRun0 n s fr aw = RS.on s' fr' aw' → WS tab s fr aw Q → WS tab s' fr' aw' Q
  | 0, s, s', fr, fr', aw, aw', h, hw => by cases h; exact hw
  | n + 1, [], s', fr, fr', aw, aw', h, hw => by cases h; exact hw
  | n + 1, .endB _ :: s, s', fr, fr', aw, aw', h, hw => WS_back n h hw
  | n + 1, .ops [] :: s, s', fr, fr', aw, aw', h, hw => by
    have hw : WO tab [] fr aw _ := hw
    rw [WO_nil] at hw; exact WS_back n h hw
  | n + 1, .ops (o :: l) :: s, s', fr, fr', aw, aw', h, hw => by
    have hw0 : WO tab (o :: l) fr aw _ := hw
    rw [WO_cons, W1_eq] at hw0
    simp only [eRun0] at h
    split at h
    · rename_i h1
      rw [h1] at hw0
      split at h
      · rename_i h2; rw [h2] at hw0; exact WS_back n h hw0
      · rename_i h2; rw [h2] at hw0; exact WS_back n h hw0
      · cases h; exact hw
    · rename_i h1; rw [h1] at hw0; exact WS_back n h hw0
    · cases h; exact hw
  | n + 1, .code c :: s, s', fr, fr', aw, aw', h, hw => by
    have hw0 : WX tab c fr aw _ := hw
    cases c with
    | skip => rw [WX_skip] at hw0; exact WS_back n h hw0
    | seq a b => rw [WX_seq] at hw0; exact WS_back n (s := .code a :: .code b :: s) h hw0
    | block id b => rw [WX_block] at hw0; exact WS_back n (s := .code b :: .endB id :: s) h hw0
    | scope b => rw [WX_scope] at hw0; exact WS_back n (s := .code b :: s) h hw0
    | region l => rw [WX_region] at hw0; exact WS_back n (s := .ops l :: s) h hw0
    | exit id =>
      rw [WX_exit] at hw0
      simp only [eRun0] at h
      split at h
      · rename_i s1 h1
        refine WS_back n h ?_
        clear h hw
        induction s with
        | nil => cases h1
        | cons x s ih =>
          cases x with
          | code c => exact ih hw0 h1
          | ops l => exact ih hw0 h1
          | endB id' =>
            simp only [popTo] at h1
            split at h1
            · rename_i he; subst he; cases h1
              simp only [KS, inB, if_pos] at hw0; exact hw0
            · rename_i he
              simp only [KS, inB, if_neg he] at hw0; exact ih hw0 h1
      · cases h; exact hw
    | cond c a b =>
      rw [WX_cond] at hw0
      simp only [eRun0] at h
      split at h
      · rename_i h1; rw [h1] at hw0; exact WS_back n (s := .code a :: s) h hw0
      · rename_i h1; rw [h1] at hw0; exact WS_back n (s := .code b :: s) h hw0
      · cases h; exact hw
    | loop b => cases h; exact hw
    | drawn l => cases h; exact hw
    | ret =>
      cases h
      rw [WX_ret] at hw0
      have : ∀ {s : List SI}, KS tab s Q .ret fr aw → Q fr aw := by
        intro s
        induction s with
        | nil => intro h; exact h
        | cons x s ih => intro h; cases x <;> exact ih h
      exact WS_ret (this hw0)
/-- the same, not to be unfolded. -/
theorem eRun_ex : ∃ f : Nat → List SI → Fr → AW → RS, f = eRun0 := ⟨_, rfl⟩
@[irreducible] noncomputable def eRun : Nat → List SI → Fr → AW → RS := Classical.choose eRun_ex
theorem eRun_eq : eRun = eRun0 := by unfold eRun; exact Classical.choose_spec eRun_ex
theorem WS_run {Q : Fr → AW → Prop} (n : Nat) {s s' : List SI} {fr fr' : Fr} {aw aw' : AW} (h : eRun n s fr aw = RS.on s' fr' aw') (hw : WS tab s' fr' aw' Q) : WS tab s fr aw Q := by
  rw [eRun_eq] at h; exact WS_run0 n h hw
/-- as far as it goes; what it stops at goes on. -/
theorem WS_runB {Q : Fr → AW → Prop} (n : Nat) {m : Nat} {s s' : List SI} {fr fr' : Fr} {aw aw' : AW} (h : eRun n s fr aw = eRun m s' fr' aw') (hw : WS tab s' fr' aw' Q) : WS tab s fr aw Q := by
  rw [eRun_eq] at h
  cases he : eRun0 m s' fr' aw' with
  | on s1 f1 a1 => rw [he] at h; exact WS_run0 n h (WS_back m he hw)
  | none => exact absurd he (eRun0_at m)
theorem eRun_nil {n : Nat} {fr : Fr} {aw : AW} : eRun (n + 1) [] fr aw = RS.on [] fr aw := by rw [eRun_eq]; rfl
theorem eRun_endB {n id : Nat} {s : List SI} {fr : Fr} {aw : AW} : eRun (n + 1) (.endB id :: s) fr aw = eRun n s fr aw := by rw [eRun_eq]; rfl
theorem eRun_opsNil {n : Nat} {s : List SI} {fr : Fr} {aw : AW} : eRun (n + 1) (.ops [] :: s) fr aw = eRun n s fr aw := by rw [eRun_eq]; rfl
theorem eRun_ops {n : Nat} {o : AOper} {l : List AOper} {s : List SI} {fr : Fr} {aw : AW} : eRun (n + 1) (.ops (o :: l) :: s) fr aw = match wanted fr o.guard with
    | some true => match aop o.op fr aw with
      | some (.val v, aw1) => eRun n (.ops l :: s) (putO fr o.dst v) aw1
      | some (.skip, aw1) => eRun n (.ops l :: s) (putO fr o.dst .undef) aw1
      | _ => RS.on (.ops (o :: l) :: s) fr aw
    | some false => eRun n (.ops l :: s) (putO fr o.dst .undef) aw
    | none => RS.on (.ops (o :: l) :: s) fr aw := by rw [eRun_eq]; rfl
theorem eRun_skip {n : Nat} {s : List SI} {fr : Fr} {aw : AW} : eRun (n + 1) (.code .skip :: s) fr aw = eRun n s fr aw := by rw [eRun_eq]; rfl
theorem eRun_seq {n : Nat} {a b : ACode} {s : List SI} {fr : Fr} {aw : AW} : eRun (n + 1) (.code (.seq a b) :: s) fr aw = eRun n (.code a :: .code b :: s) fr aw := by rw [eRun_eq]; rfl
theorem eRun_block {n id : Nat} {b : ACode} {s : List SI} {fr : Fr} {aw : AW} : eRun (n + 1) (.code (.block id b) :: s) fr aw = eRun n (.code b :: .endB id :: s) fr aw := by rw [eRun_eq]; rfl
theorem eRun_scope {n : Nat} {b : ACode} {s : List SI} {fr : Fr} {aw : AW} : eRun (n + 1) (.code (.scope b) :: s) fr aw = eRun n (.code b :: s) fr aw := by rw [eRun_eq]; rfl
theorem eRun_region {n : Nat} {l : List AOper} {s : List SI} {fr : Fr} {aw : AW} : eRun (n + 1) (.code (.region l) :: s) fr aw = eRun n (.ops l :: s) fr aw := by rw [eRun_eq]; rfl
theorem eRun_exit {n id : Nat} {s : List SI} {fr : Fr} {aw : AW} : eRun (n + 1) (.code (.exit id) :: s) fr aw = match popTo id s with
      | some s' => eRun n s' fr aw
      | none => RS.on (.code (.exit id) :: s) fr aw := by rw [eRun_eq]; rfl
theorem eRun_cond {n : Nat} {c : Opd} {a b : ACode} {s : List SI} {fr : Fr} {aw : AW} : eRun (n + 1) (.code (.cond c a b) :: s) fr aw = match c.ev fr with
      | some (.bool true) => eRun n (.code a :: s) fr aw
      | some (.bool false) => eRun n (.code b :: s) fr aw
      | _ => RS.on (.code (.cond c a b) :: s) fr aw := by rw [eRun_eq]; rfl
theorem eRun_loop {n : Nat} {b : ACode} {s : List SI} {fr : Fr} {aw : AW} : eRun (n + 1) (.code (.loop b) :: s) fr aw = RS.on (.code (.loop b) :: s) fr aw := by rw [eRun_eq]; rfl
theorem eRun_drawn {n : Nat} {l : List DOper} {s : List SI} {fr : Fr} {aw : AW} : eRun (n + 1) (.code (.drawn l) :: s) fr aw = RS.on (.code (.drawn l) :: s) fr aw := by rw [eRun_eq]; rfl
theorem eRun_ret {n : Nat} {s : List SI} {fr : Fr} {aw : AW} : eRun (n + 1) (.code .ret :: s) fr aw = RS.on [.code .ret] fr aw := by rw [eRun_eq]; rfl
theorem T.get_putk {α : Type} {t : T α} {k j : Nat} {x : α} : (t.put k x).get j = if j = k then some x else t.get j := by
  by_cases hj : j = k
  · subst hj; rw [if_pos rfl, get_put_same]
  · rw [if_neg hj, get_put_ne hj]
theorem initFr_nil {k : Nat} : initFr [] k = .e := rfl
theorem initFr_cons {v : V} {l : List V} {k : Nat} : initFr (v :: l) k = (initFr l (k + 1)).put k v := rfl
theorem putO_some {fr : Fr} {d : Nat} {v : V} : putO fr (some d) v = fr.put d v := rfl
theorem putO_none {fr : Fr} {v : V} : putO fr none v = fr := rfl
theorem wanted_none {fr : Fr} : wanted fr none = some true := rfl
theorem ev_tmp {fr : Fr} {t : Nat} : (Opd.tmp t).ev fr = fr.get t := rfl
theorem ev_const {fr : Fr} {v : V} : (Opd.const v).ev fr = some v := rfl
theorem resOne_one {v : V} : resOne [v] = v := rfl
theorem resOne_two {v u : V} : resOne [v, u] = .tuple [v, u] := rfl
theorem natBeq {a b : Nat} : Nat.beq a b = decide (a = b) := by
  cases h : Nat.beq a b with
  | true => simp [Nat.eq_of_beq_eq_true h]
  | false => simp [Nat.ne_of_beq_eq_false h]
theorem natBle {a b : Nat} : Nat.ble a b = decide (a ≤ b) := by
  cases h : Nat.ble a b with
  | true => simp [Nat.le_of_ble_eq_true h]
  | false => simp only [Bool.false_eq, decide_eq_false_iff_not]; exact Nat.not_le_of_not_ble_eq_true (by simp [h])
theorem natBlt {a b : Nat} : Nat.blt a b = decide (a < b) := by
  unfold Nat.blt; rw [natBle]; rfl
theorem wrap_id {n : Int} (h1 : -9223372036854775808 ≤ n) (h2 : n ≤ 9223372036854775807) : IntKind.wrap .i64 n = n := by
  have h : IntKind.wrap .i64 n = if n % 18446744073709551616 ≥ 9223372036854775808 then n % 18446744073709551616 - 18446744073709551616 else n % 18446744073709551616 := by
    simp [IntKind.wrap, IntKind.bits, IntKind.signed]
  rw [h]; split <;> omega
theorem wrap_add {a b : Nat} (h : a + b ≤ 9223372036854775807) : IntKind.wrap .i64 (Int.ofNat a + Int.ofNat b) = Int.ofNat (a + b) := by
  have e1 : Int.ofNat a = (a : Int) := rfl
  have e2 : Int.ofNat b = (b : Int) := rfl
  have e3 : Int.ofNat (a + b) = ((a + b : Nat) : Int) := rfl
  rw [wrap_id] <;> omega
theorem wrap_succ {a : Nat} (h : a + 1 ≤ 9223372036854775807) : IntKind.wrap .i64 (Int.ofNat a + 1) = Int.ofNat (a + 1) := wrap_add (b := 1) h
theorem gt_nn {a b : Nat} : decide (Int.ofNat a > Int.ofNat b) = decide (b < a) := by simp
theorem ge_nn {a b : Nat} : decide (Int.ofNat a ≥ Int.ofNat b) = decide (b ≤ a) := by simp
theorem le_nn {a b : Nat} : decide (Int.ofNat a ≤ Int.ofNat b) = decide (a ≤ b) := by simp
theorem lt_nn {a b : Nat} : decide (Int.ofNat a < Int.ofNat b) = decide (a < b) := by simp
theorem eq_nn {a b : Nat} : (Int.ofNat a == Int.ofNat b) = decide (a = b) := by
  by_cases h : a = b
  · simp [h]
  · simp only [h, decide_false, beq_eq_false_iff_ne, ne_eq]; intro e; exact h (Int.ofNat.inj e)
theorem ne_nn {a b : Nat} : (Int.ofNat a != Int.ofNat b) = !decide (a = b) := by
  simp only [bne, eq_nn]
theorem gt_nl {a b : Nat} : decide (Int.ofNat a > (no_index (@OfNat.ofNat Int b instOfNat))) = decide (@OfNat.ofNat Nat b (instOfNatNat b) < a) := gt_nn
theorem ge_nl {a b : Nat} : decide (Int.ofNat a ≥ (no_index (@OfNat.ofNat Int b instOfNat))) = decide (@OfNat.ofNat Nat b (instOfNatNat b) ≤ a) := ge_nn
theorem le_nl {a b : Nat} : decide (Int.ofNat a ≤ (no_index (@OfNat.ofNat Int b instOfNat))) = decide (a ≤ @OfNat.ofNat Nat b (instOfNatNat b)) := le_nn
theorem lt_nl {a b : Nat} : decide (Int.ofNat a < (no_index (@OfNat.ofNat Int b instOfNat))) = decide (a < @OfNat.ofNat Nat b (instOfNatNat b)) := lt_nn
theorem eq_nl {a b : Nat} : (Int.ofNat a == (no_index (@OfNat.ofNat Int b instOfNat))) = decide (a = @OfNat.ofNat Nat b (instOfNatNat b)) := eq_nn
theorem ne_nl {a b : Nat} : (Int.ofNat a != (no_index (@OfNat.ofNat Int b instOfNat))) = !decide (a = @OfNat.ofNat Nat b (instOfNatNat b)) := ne_nn
theorem gt_ln {a b : Nat} : decide ((no_index (@OfNat.ofNat Int b instOfNat)) > Int.ofNat a) = decide (a < @OfNat.ofNat Nat b (instOfNatNat b)) := gt_nn
theorem ge_ln {a b : Nat} : decide ((no_index (@OfNat.ofNat Int b instOfNat)) ≥ Int.ofNat a) = decide (a ≤ @OfNat.ofNat Nat b (instOfNatNat b)) := ge_nn
theorem lt_ln {a b : Nat} : decide ((no_index (@OfNat.ofNat Int b instOfNat)) < Int.ofNat a) = decide (@OfNat.ofNat Nat b (instOfNatNat b) < a) := lt_nn
theorem le_ln {a b : Nat} : decide ((no_index (@OfNat.ofNat Int b instOfNat)) ≤ Int.ofNat a) = decide (@OfNat.ofNat Nat b (instOfNatNat b) ≤ a) := le_nn
theorem take_drop_all {α : Type} {k : Nat} {s : List α} : (s.drop k).take (s.length - k) = s.drop k := List.take_of_length_le (by simp)
theorem take_drop_mid {α : Type} {k n : Nat} {s : List α} : (s.drop k).take (k + n - k) = (s.drop k).take n := by rw [Nat.add_sub_cancel_left]
/-! what a call leaves of what was there: all below a number. -/
structure Ext (N : Nat) (w w' : AW) : Prop where
  le : N ≤ w.next
  next : w.next ≤ w'.next
  heap : ∀ b, b < N → w'.heap.get b = w.heap.get b
  fams : ∀ b, b < N → w'.fams.get b = w.fams.get b
theorem Ext.refl (w : AW) : Ext w.next w w := ⟨Nat.le_refl _, Nat.le_refl _, fun _ _ => rfl, fun _ _ => rfl⟩
theorem Ext.trans {N : Nat} {a b c : AW} (h : Ext N a b) (h' : Ext N b c) : Ext N a c :=
  ⟨h.le, Nat.le_trans h.next h'.next, fun k hk => (h'.heap k hk).trans (h.heap k hk), fun k hk => (h'.fams k hk).trans (h.fams k hk)⟩
theorem Ext.mono {N M : Nat} {a b : AW} (h : Ext N a b) (hm : M ≤ N) : Ext M a b :=
  ⟨Nat.le_trans hm h.le, h.next, fun k hk => h.heap k (Nat.lt_of_lt_of_le hk hm), fun k hk => h.fams k (Nat.lt_of_lt_of_le hk hm)⟩
theorem Ext.new {N : Nat} {w : AW} (h : N ≤ w.next) (x : Blk) : Ext N w (w.new x) :=
  ⟨h, Nat.le_succ _, fun b hb => T.get_put_ne (by omega), fun _ _ => rfl⟩
theorem Ext.le' {N : Nat} {a b : AW} (h : Ext N a b) : N ≤ b.next := Nat.le_trans h.le h.next
/-- a slice that one appends to, its cells; all of it from N on. -/
inductive Own (N : Nat) (w : AW) : V → Nat → Nat → List V → Prop
  | nil {esz : Nat} : Own N w .nilslice esz 0 []
  | blk {b n esz : Nat} {cs : List V} {sh : Share} (hN : N ≤ b) (hb : b < w.next) (hx : w.heap.get b = some (.cells cs sh)) (hl : cs.length = n * esz) (he : 0 < esz) (hn : 0 < n)
      (hs : sh = .own ∨ sh = .lax ∨ ∃ f F, sh = .fam f ∧ N ≤ f ∧ f < w.next ∧ w.fams.get f = some F ∧ F.last = b ∧ F.floor ≤ w.next ∧ w.alive b sh = true) : Own N w (.slice b 0 n (.upTo esz)) esz n cs
theorem Own.ext {N : Nat} {w w' : AW} {v : V} {esz n : Nat} {cs : List V} (h : Own N w v esz n cs) {M : Nat} (hM : w.next ≤ M) (he : Ext M w w') : Own N w' v esz n cs := by
  cases h with
  | nil => exact .nil
  | blk hN hb hx hl he' hn hs =>
    refine .blk hN (Nat.lt_of_lt_of_le hb he.next) ((he.heap _ (by omega)).trans hx) hl he' hn ?_
    rcases hs with rfl | rfl | ⟨f, F, rfl, h1, h2, h3, h4, h6, h5⟩
    · exact .inl rfl
    · exact .inr (.inl rfl)
    · refine .inr (.inr ⟨f, F, rfl, h1, Nat.lt_of_lt_of_le h2 he.next, (he.fams f (by omega)).trans h3, h4, Nat.le_trans h6 he.next, ?_⟩)
      simp only [AW.alive, h3, (he.fams f (by omega)).trans h3] at h5 ⊢
      exact h5
theorem takeN_all : ∀ (l : List V) (n : Nat), l.length = n → takeN n l = some l
  | [], n, h => by cases h; rfl
  | x :: l, n, h => by
    cases n with
    | zero => cases h
    | succ n => simp only [takeN, takeN_all l n (by simpa using h)]
theorem takeN_some : ∀ (n : Nat) (l : List V), n ≤ l.length → takeN n l = some (l.take n)
  | 0, l, h => by simp [takeN]
  | n + 1, [], h => by simp at h
  | n + 1, x :: l, h => by simp only [takeN, takeN_some n l (by simpa using h), List.take_succ_cons]
theorem Own.alive {N : Nat} {w : AW} {b n esz : Nat} {cs : List V} {sh : Share} (hs : sh = .own ∨ sh = .lax ∨ ∃ f F, sh = .fam f ∧ N ≤ f ∧ f < w.next ∧ w.fams.get f = some F ∧ F.last = b ∧ F.floor ≤ w.next ∧ w.alive b sh = true) : w.alive b sh = true := by
  rcases hs with rfl | rfl | ⟨f, F, rfl, h1, h2, h3, h4, h6, h5⟩
  · rfl
  · rfl
  · exact h5
theorem Own.len {N : Nat} {w : AW} {v : V} {esz n : Nat} {cs : List V} (h : Own N w v esz n cs) : cs.length = n * esz := by
  cases h with
  | nil => simp
  | blk hN hb hx hl he' hn hs => exact hl
/-- a cell of it. -/
theorem Own.load {N : Nat} {w : AW} {b n esz : Nat} {c : Cap} {cs : List V} (h : Own N w (.slice b 0 n c) esz n cs) {o k : Nat} (hk : o + k ≤ cs.length) : w.load b o k = some ((cs.drop o).take k) := by
  cases h with
  | blk hN hb hx hl he' hn hs =>
    simp only [AW.load, hx, Own.alive (n := n) (esz := esz) (cs := cs) hs]
    exact takeN_some _ _ (by simp; omega)
theorem allOne_iff : ∀ {l : List V}, allOne l = true ↔ ∀ v ∈ l, v.one = true
  | [] => by simp [allOne]
  | x :: l => by
    simp only [allOne]
    cases h : x.one with
    | true => simp [allOne_iff, h]
    | false => simp [h]
theorem Own.append {N : Nat} {w : AW} {v : V} {esz n k bytes : Nat} {cs news : List V} (h : Own N w v esz n cs) (hNw : N ≤ w.next) (he : 0 < esz) (hk : 0 < k) (hl : news.length = k * esz) (h1 : allOne news = true) (hb : (n + k) * bytes ≤ 70368744177664) (hb' : n + k ≤ 70368744177664) :
    ∃ v' w', w.appendV esz bytes v k news = some (v', w') ∧ Own N w' v' esz (n + k) (cs ++ news) ∧ Ext N w w' := by
  obtain ⟨k, rfl⟩ : ∃ m, k = m + 1 := ⟨k - 1, by omega⟩
  cases h with
  | nil =>
    refine ⟨.slice w.next 0 (k + 1) (.upTo esz), w.fresh news, ?_, ?_, Ext.new hNw _⟩
    · simp only [AW.appendV]; rw [if_pos ⟨by simpa using hb, by omega⟩]
    · rw [Nat.zero_add]
      exact .blk hNw (Nat.lt_succ_self _) T.get_put_same (by simpa using hl) he (by omega) (.inl rfl)
  | @blk b _ _ _ sh hN hbw hx hlen he' hn hs =>
    have hbeq : Nat.beq (0 + n * esz) cs.length = true := by rw [Nat.zero_add, hlen, Nat.beq_refl]
    have hin : esz = esz ∧ (n + (k + 1)) * bytes ≤ 70368744177664 ∧ n + (k + 1) ≤ 70368744177664 ∧ allOne news = true ∧ 0 < esz := ⟨rfl, hb, hb', h1, he⟩
    -- from a family's block
    have fam : ∀ (u : AW) (f : Nat) (F : Fam), u.heap.get b = some (.cells cs (.fam f)) → N ≤ f → f < u.next → b < u.next → N ≤ u.next → u.fams.get f = some F → F.last = b → F.floor ≤ u.next → u.alive b (.fam f) = true →
        ∃ v' w', u.appendFam esz b 0 n (k + 1) news = some (v', w') ∧ Own N w' v' esz (n + (k + 1)) (cs ++ news) ∧ Ext N u w' := by
      intro u f F hx hNf hfu hbu hNu hF hlast hfl hal
      refine ⟨.slice u.next 0 (n + (k + 1)) (.upTo esz), u.grow b f F (cs.drop 0 ++ news), ?_, ?_, ?_⟩
      · simp only [AW.appendFam, hx, hal, hF, hbeq]
      · have hg : (u.grow b f F (cs.drop 0 ++ news)).fams.get f = some ⟨F.keep, F.floor, u.next⟩ := by
          simp only [AW.grow, T.get_putk, if_true, hlast, Nat.beq_refl]
        refine .blk hNu (Nat.lt_succ_self _) (sh := .fam f) ?_ ?_ he (by omega) (.inr (.inr ⟨f, ⟨F.keep, F.floor, u.next⟩, rfl, hNf, Nat.lt_succ_of_lt hfu, hg, rfl, Nat.le_succ_of_le hfl, ?_⟩))
        · simp only [AW.grow, T.get_putk, if_true, List.drop_zero]
        · rw [List.length_append, hlen, hl, Nat.add_mul n]
        · simp only [AW.alive, hg, Bool.or_eq_true]
          exact .inr (Nat.ble_eq_true_of_le hfl)
      · refine ⟨hNu, Nat.le_succ _, fun c hc => ?_, fun c hc => ?_⟩
        · exact T.get_put_ne (by omega)
        · exact T.get_put_ne (by omega)
    have fnd : sh = .own ∨ sh = .lax → ∃ v' w', (w.found b cs).appendFam esz b 0 n (k + 1) news = some (v', w') ∧ Own N w' v' esz (n + (k + 1)) (cs ++ news) ∧ Ext N w w' := by
      intro _
      obtain ⟨v', w', q1, q2, q3⟩ := fam (w.found b cs) w.next ⟨b, w.next + 1, b⟩ T.get_put_same hNw (Nat.lt_succ_self _) (Nat.lt_succ_of_lt hbw) (Nat.le_succ_of_le hNw) T.get_put_same rfl (Nat.le_refl _)
        (by simp only [AW.alive, AW.found, T.get_putk, if_true, Nat.beq_refl, Bool.true_or])
      refine ⟨v', w', q1, q2, Ext.trans ⟨hNw, Nat.le_succ _, fun c hc => ?_, fun c hc => ?_⟩ q3⟩
      · exact T.get_put_ne (by omega)
      · exact T.get_put_ne (by omega)
    have happ : w.appendV esz bytes (.slice b 0 n (.upTo esz)) (k + 1) news = w.appendUp esz b 0 n (k + 1) news := if_pos hin
    rw [happ]
    simp only [AW.appendUp, hx, hbeq]
    rcases hs with rfl | rfl | ⟨f, F, rfl, g1, g2, g3, g4, g6, g5⟩
    · exact fnd (.inl rfl)
    · exact fnd (.inr rfl)
    · exact fam w f F hx g1 g2 hbw hNw g3 g4 g6 g5
/-- a region whose order is drawn, of quiet operations alone. -/
def dRun : List DOper → Fr → AW → Option Fr
  | [], fr, _ => some fr
  | d :: l, fr, aw => match wanted (hideL fr d.hide) d.op.guard with
    | some true => match aop d.op.op (hideL fr d.hide) aw with
      | some (.val v, _) => dRun l (putO fr d.op.dst v) aw
      | _ => none
    | some false => dRun l (putO fr d.op.dst .undef) aw
    | none => none
theorem Pass.len {l : List DOper} {fr : Fr} {aw : AW} {st : List Stp} {fr' : Fr} {aw' : AW} : Pass tab l fr aw st fr' aw' → st.length = l.length := by
  induction l generalizing fr aw st with
  | nil => intro h; cases h; rfl
  | cons d l ih => intro h; cases h; rename_i h1 h2; simp [ih h2]
theorem idx_lit {k : IntKind} {n : Nat} : idx (.int k (no_index (@OfNat.ofNat Int n instOfNat))) = some (@OfNat.ofNat Nat n (instOfNatNat n)) := rfl
theorem idx_nat {k : IntKind} {n : Nat} : idx (.int k (Int.ofNat n)) = some n := rfl
theorem elems_fresh {w : AW} {esz n : Nat} {cs : List V} {c : Cap} (hn : 0 < n) (hl : cs.length = n * esz) : (w.fresh cs).elems esz (.slice w.next 0 n c) = some (n, cs) := by
  obtain ⟨n, rfl⟩ : ∃ m, n = m + 1 := ⟨n - 1, by omega⟩
  simp only [AW.elems, AW.load, AW.fresh, AW.new, T.get_putk, if_true, AW.alive, List.drop_zero]
  rw [takeN_all cs _ hl]
/-- appended: one thing that was just built. -/
theorem Own.push {N : Nat} {w : AW} {v : V} {esz n bytes : Nat} {cs news : List V} (h : Own N w v esz n cs) (hNw : N ≤ w.next) (he : 0 < esz) (hl : news.length = esz) (h1 : allOne news = true) (hb : (n + 1) * bytes ≤ 70368744177664) (hb' : n + 1 ≤ 70368744177664) :
    ∃ v' w', (w.fresh news).appendV esz bytes v 1 news = some (v', w') ∧ Own N w' v' esz (n + 1) (cs ++ news) ∧ Ext N w w' := by
  have hx : Ext w.next w (w.fresh news) := Ext.new (Nat.le_refl _) _
  obtain ⟨v', w', h2, h3, h4⟩ := (h.ext (Nat.le_refl _) hx).append (news := news) (bytes := bytes) (k := 1) (Nat.le_trans hNw hx.next) he (by omega) (by omega) h1 hb hb'
  exact ⟨v', w', h2, h3, (hx.mono hNw).trans h4⟩
theorem drop_flat {α : Type} {enc : α → List V} {sz : Nat} (h : ∀ x, (enc x).length = sz) : ∀ (l : List α) (i : Nat), (l.flatMap enc).drop (i * sz) = (l.drop i).flatMap enc
  | [], i => by simp
  | x :: l, 0 => by simp
  | x :: l, i + 1 => by
    have e : (i + 1) * sz = sz + i * sz := by rw [Nat.add_mul, Nat.one_mul, Nat.add_comm]
    rw [List.flatMap_cons, e, ← List.drop_drop, List.drop_append_of_le_length (by rw [h x]; exact Nat.le_refl _)]
    have : List.drop sz (enc x) = [] := List.drop_eq_nil_of_le (by rw [h x]; exact Nat.le_refl _)
    rw [this, List.nil_append, drop_flat h l i, List.drop_succ_cons]
theorem flat_len {α : Type} {enc : α → List V} {sz : Nat} (h : ∀ x, (enc x).length = sz) : ∀ (l : List α), (l.flatMap enc).length = l.length * sz
  | [] => by simp
  | x :: l => by rw [List.flatMap_cons, List.length_append, h x, flat_len h l, List.length_cons, Nat.add_mul, Nat.one_mul, Nat.add_comm]
/-- a part of an element. -/
theorem flat_part {α : Type} {enc : α → List V} {sz : Nat} (h : ∀ x, (enc x).length = sz) {l : List α} {i j k : Nat} {x : α} (hx : l[i]? = some x) (hj : j + k ≤ sz) : (((l.flatMap enc).drop (0 + i * sz + j)).take k) = ((enc x).drop j).take k := by
  have hi : i < l.length := (List.getElem?_eq_some_iff.1 hx).1
  have hd : l.drop i = x :: l.drop (i + 1) := by
    rw [List.drop_eq_getElem_cons hi]; rw [List.getElem?_eq_getElem hi] at hx; rw [Option.some.inj hx]
  rw [Nat.zero_add, ← List.drop_drop, drop_flat h, hd, List.flatMap_cons, List.drop_append_of_le_length (by rw [h x]; omega), List.take_append_of_le_length (by rw [List.length_drop, h x]; omega)]
theorem Own.part {α : Type} {enc : α → List V} {N : Nat} {w : AW} {b n sz : Nat} {c : Cap} {l : List α} (h : ∀ x, (enc x).length = sz) (ho : Own N w (.slice b 0 n c) sz n (l.flatMap enc)) {i j k : Nat} {x : α} (hx : l[i]? = some x) (hj : j + k ≤ sz) :
    w.load b (0 + i * sz + j) k = some (((enc x).drop j).take k) := by
  have hi : i < l.length := (List.getElem?_eq_some_iff.1 hx).1
  rw [ho.load ?_, flat_part h hx hj]
  rw [flat_len h]
  have : i * sz + sz ≤ l.length * sz := by
    have : (i + 1) * sz ≤ l.length * sz := Nat.mul_le_mul_right _ hi
    rwa [Nat.add_mul, Nat.one_mul] at this
  omega
theorem Own.inv {N : Nat} {w : AW} {v : V} {esz n : Nat} {cs : List V} (h : Own N w v esz n cs) : (v = .nilslice ∧ n = 0 ∧ cs = []) ∨ ∃ b, v = .slice b 0 n (.upTo esz) ∧ 0 < n := by
  cases h with
  | nil => exact .inl ⟨rfl, rfl, rfl⟩
  | blk hN hb hx hl he hn hs => exact .inr ⟨_, rfl, hn⟩
end
end Go.AE

namespace Go.AE
theorem lenV_nil : lenV .nilslice = some 0 := rfl
theorem lenV_slice {b o n : Nat} {c : Cap} : lenV (.slice b o n c) = some n := rfl
attribute [go_sem] lenV_nil lenV_slice eRun_nil eRun_endB eRun_opsNil eRun_ops eRun_skip eRun_seq eRun_block eRun_scope eRun_region eRun_cond eRun_loop eRun_drawn eRun_ret dRun hideL T.get_delk evOpt Option.getD_none Option.getD_some Nat.le_refl and_self true_and and_true take_drop_all take_drop_mid gt_nn ge_nn le_nn lt_nn eq_nn ne_nn gt_nl ge_nl le_nl lt_nl eq_nl ne_nl gt_ln ge_ln le_ln lt_ln Bool.true_and Bool.false_and popTo wanted_none wanted aop ev_tmp ev_const evs initFr_cons initFr_nil putO_some putO_none AE.valOf T.get_putk T.get idx_lit idx_nat List.getElem?_cons_zero List.getElem?_cons_succ aBin binI aUn beq_self_eq_true Bool.true_beq Bool.false_beq Bool.not_true Bool.not_false List.append_nil List.nil_append List.cons_append natBeq natBle natBlt decide_true decide_false resV resOne_one resOne_two
end Go.AE

set_option linter.unusedVariables false
set_option linter.unusedSimpArgs false
namespace Go.AE
def aopK (o : AOp) : Fr → AW → Option (Res × AW) :=
  match o with
  | .stuck => fun fr aw => none
  | .mov x => fun fr aw => valOf (x.ev fr) aw
  | .pick c a b => fun fr aw => match c.ev fr with
    | some (.bool true) => valOf (a.ev fr) aw
    | some (.bool false) => valOf (b.ev fr) aw
    | _ => none
  | .bin op x y => fun fr aw => match x.ev fr, y.ev fr with
    | some a, some b => valOf (aBin op a b) aw
    | _, _ => none
  | .eqv neg ty x y => fun fr aw => match x.ev fr, y.ev fr with
    | some a, some b => match eqV ty a b with
      | some r => some (.val (.bool (neg != r)), aw)
      | none => none
    | _, _ => none
  | .eqAgg neg l x y => fun fr aw => match x.ev fr, y.ev fr with
    | some (.agg a), some (.agg b) => match eqCells l a b with
      | some r => some (.val (.bool (neg != r)), aw)
      | none => none
    | _, _ => none
  | .un op x => fun fr aw => match x.ev fr with
    | some a => valOf (aUn op a) aw
    | none => none
  | .conv k x => fun fr aw => match x.ev fr with
    | some (.int _ n) => some (.val (.int k (k.wrap n)), aw)
    | _ => none
  | .convStr x => fun fr aw => match x.ev fr with
    | some (.str l) => some (.val (.str l), aw)
    | _ => none
  | .bytesOf x => fun fr aw => match x.ev fr with
    | some (.str l) => if l.length ≤ 70368744177664 then some (.val (.slice aw.next 0 l.length (.upTo 1)), aw.freshLax (intCells l)) else none
    | _ => none
  | .strOf x => fun fr aw => match x.ev fr with
    | some .nilslice => some (.val (.str []), aw)
    | some (.slice b off len cap) => match aw.elems 1 (.slice b off len cap) with
      | some (_, l) => match bytesV l with
        | some cs => some (.val (.str cs), aw)
        | none => none
      | none => none
    | _ => none
  | .nilCheck x => fun fr aw => match x.ev fr with
    | some (.ptr b off) => some (.val (.ptr b off), aw)
    | some (.func (.func f) a c) => some (.val (.func (.func f) a c), aw)
    | some (.iface t v) => some (.val (.iface t v), aw)
    | _ => none
  | .fieldAddr off x => fun fr aw => match x.ev fr with
    | some (.ptr b o) => some (.val (.ptr b (o + off)), aw)
    | _ => none
  | .indexAddr esz x i => fun fr aw => match x.ev fr, i.ev fr with
    | some (.slice b off len _), some iv => match idx iv with
      | some n => if n < len then some (.val (.ptr b (off + n * esz)), aw) else none
      | none => none
    | _, _ => none
  | .indexArr n esz x i => fun fr aw => match x.ev fr, i.ev fr with
    | some (.ptr b off), some iv => match idx iv with
      | some j => if j < n then some (.val (.ptr b (off + j * esz)), aw) else none
      | none => none
    | _, _ => none
  | .indexStr x i => fun fr aw => match x.ev fr, i.ev fr with
    | some (.str l), some iv => match idx iv with
      | some n => match l[n]? with
        | some c => some (.val (.int .u8 (Int.ofNat c)), aw)
        | none => none
      | none => none
    | _, _ => none
  | .indexAgg n esz agg x i => fun fr aw => match x.ev fr, i.ev fr with
    | some (.agg l), some iv => match idx iv with
      | some j => if j < n then valOf (partV l (j * esz) esz agg) aw else none
      | none => none
    | _, _ => none
  | .field off sz agg x => fun fr aw => match x.ev fr with
    | some (.agg l) => valOf (partV l off sz agg) aw
    | _ => none
  | .load sz agg a => fun fr aw => match a.ev fr with
    | some (.ptr b off) => match agg with
      | true => match aw.load b off sz with
        | some l => some (.val (.agg l), aw)
        | none => none
      | false => match aw.load b off 1 with
        | some [v] => some (.val v, aw)
        | _ => none
    | _ => none
  | .store sz a v => fun fr aw => match a.ev fr, v.ev fr with
    | some (.ptr b off), some v => if v.cells.length = sz then match aw.store b off v.cells with
        | some aw' => some (.skip, aw')
        | none => none
      else none
    | _, _ => none
  | .alloc zero => fun fr aw => some (.val (.ptr aw.next 0), aw.fresh zero)
  | .box x => fun fr aw => match x.ev fr with
    | some v => some (.val (.ptr aw.next 0), aw.fresh v.cells)
    | none => none
  | .build zero parts => fun fr aw => match evParts fr parts with
    | some ps => match fillV zero ps with
      | some l => some (.val (.agg l), aw)
      | none => none
    | none => none
  | .buildSlice len zero parts => fun fr aw => match evParts fr parts with
    | some ps => match fillV zero ps with
      | some l => some (.val (.slice aw.next 0 len (.known len)), aw.fresh l)
      | none => none
    | none => none
  | .mkSlice esz bytes zero l c => fun fr aw => match l.ev fr, c.ev fr with
    | some lv, some cv => match idx lv, idx cv with
      | some l, some c => if l ≤ c ∧ c ≤ 70368744177664 ∧ c * bytes ≤ 70368744177664 then
          some (.val (.slice aw.next 0 l (.known c)), aw.fresh ((List.replicate c zero).flatten))
        else none
      | _, _ => none
    | _, _ => none
  | .slice esz x lo hi mx => fun fr aw => match x.ev fr, evOpt fr lo, evOpt fr hi, evOpt fr mx with
    | some (.slice b off len cap), some lo, some hi, some mx => valOf (aw.sliceW esz b off len cap lo hi mx) aw
    | some .nilslice, some lo, some hi, some mx => match lo.getD 0, hi.getD 0, mx.getD 0 with
      | 0, 0, 0 => if mx.isSome = true → hi.isSome = true then some (.val .nilslice, aw) else none
      | _, _, _ => none
    | _, _, _, _ => none
  | .sliceStr x lo hi => fun fr aw => match x.ev fr, evOpt fr lo, evOpt fr hi with
    | some (.str s), some lo, some hi =>
      let h := hi.getD s.length
      let l := lo.getD 0
      if h ≤ s.length ∧ l ≤ h then some (.val (.str ((s.drop l).take (h - l))), aw) else none
    | _, _, _ => none
  | .sliceArr n esz x lo hi mx => fun fr aw => match x.ev fr, evOpt fr lo, evOpt fr hi, evOpt fr mx with
    | some (.ptr b off), some lo, some hi, some mx => valOf (sliceV esz b off n (.known n) lo hi mx) aw
    | _, _, _, _ => none
  | .mkMap => fun fr aw => some (.val (.map aw.next), aw.new (.map [] 0))
  | .lookup t zero ok m k => fun fr aw => match m.ev fr, k.ev fr with
    | some m, some k => match aw.lookV t zero m k with
      | some (v, b) => some (.val (match ok with | true => .tuple [v, .bool b] | false => v), aw)
      | none => none
    | _, _ => none
  | .mapUpdate t m k v => fun fr aw => match m.ev fr, k.ev fr, v.ev fr with
    | some m, some k, some v => match aw.putV t m k v with
      | some aw' => some (.skip, aw')
      | none => none
    | _, _, _ => none
  | .mapEntry t zero m k => fun fr aw => match m.ev fr, k.ev fr with
    | some m, some k => match aw.entries m, keyOk t k with
      | some (some b, es, ck), true => match findE t k es 0 with
        | some (some (i, v, n)) => some (.val (.tuple [v, .int .i64 (Int.ofNat n)]), aw.turn b (.map (setE i k v es) ck))
        | some none => some (.val (.tuple [zero, .int .i64 (Int.ofNat ck)]), aw.turn b (.map (es ++ [(k, zero, ck)]) (ck + 1)))
        | none => none
      | _, _ => none
    | _, _ => none
  | .entryStore m s v => fun fr aw => match m.ev fr, s.ev fr, v.ev fr with
    | some m, some s, some v => match aw.entries m, idx s with
      | some (some b, es, ck), some n => match es.findIdx? (fun e => Nat.beq e.2.2 n) with
        | some i => match es[i]? with
          | some (k, _, n) => some (.skip, aw.turn b (.map (es.set i (k, v, n)) ck))
          | none => none
        | none => none
      | _, _ => none
    | _, _, _ => none
  | .delete t m k => fun fr aw => match m.ev fr, k.ev fr with
    | some m, some k => match aw.entries m, keyOk t k with
      | some (none, _, _), true => some (.val (.tuple []), aw)
      | some (some b, es, ck), true => match findE t k es 0 with
        | some (some (i, _, _)) => some (.val (.tuple []), aw.turn b (.map (es.eraseIdx i) ck))
        | some none => some (.val (.tuple []), aw.turn b (.map es ck))
        | none => none
      | _, _ => none
    | _, _ => none
  | .mkIface t x => fun fr aw => match x.ev fr with
    | some v => some (.val (.iface t v), aw)
    | none => none
  | .typeAssert t zero ok x => fun fr aw => match x.ev fr with
    | some (.iface t' v) => match Nat.beq t' t with
      | true => some (.val (match ok with | true => .tuple [v, .bool true] | false => v), aw)
      | false => match ok with
        | true => some (.val (.tuple [zero, .bool false]), aw)
        | false => none
    | some .niliface => match ok with
      | true => some (.val (.tuple [zero, .bool false]), aw)
      | false => none
    | _ => none
  | .mkFunc fn first cap => fun fr aw => match evs fr first, evs fr cap with
    | some f, some c => some (.val (.func fn f c), aw)
    | _, _ => none
  | .extract i x => fun fr aw => match x.ev fr with
    | some (.tuple l) => valOf (l[i]?) aw
    | _ => none
  | .lenStr x => fun fr aw => match x.ev fr with
    | some (.str l) => some (.val (.int .i64 (Int.ofNat l.length)), aw)
    | _ => none
  | .lenSl x => fun fr aw => match x.ev fr with
    | some v => match lenV v with
      | some n => some (.val (.int .i64 (Int.ofNat n)), aw)
      | none => none
    | none => none
  | .lenMap x => fun fr aw => match x.ev fr with
    | some m => match aw.entries m with
      | some (_, es, _) => some (.val (.int .i64 (Int.ofNat es.length)), aw)
      | none => none
    | none => none
  | .lenArr n => fun fr aw => some (.val (.int .i64 (Int.ofNat n)), aw)
  | .cap x => fun fr aw => match x.ev fr with
    | some (.slice _ _ _ (.known c)) => some (.val (.int .i64 (Int.ofNat c)), aw)
    | some .nilslice => some (.val (.int .i64 (Int.ofNat 0)), aw)
    | _ => none
  | .mn xs => fun fr aw => match evs fr xs with
    | some (v :: rest) => valOf (minL v rest) aw
    | _ => none
  | .mx xs => fun fr aw => match evs fr xs with
    | some (v :: rest) => valOf (maxL v rest) aw
    | _ => none
  | .append esz bytes s x => fun fr aw => match s.ev fr, x.ev fr with
    | some s, some x => match aw.elems esz x with
      | some (k, news) => match aw.appendV esz bytes s k news with
        | some (v, aw') => some (.val v, aw')
        | none => none
      | none => none
    | _, _ => none
  | .copy esz d s => fun fr aw => match d.ev fr, s.ev fr with
    | some (.slice b off len _), some s => match aw.elems esz s with
      | some (k, l) => match takeN (min k len * esz) l with
        | some cs => match cs with
          | [] => some (.val (.int .i64 (Int.ofNat (min k len))), aw)
          | cs => match aw.store b off cs with
            | some aw' => some (.val (.int .i64 (Int.ofNat (min k len))), aw')
            | none => none
        | none => none
      | none => none
    | some .nilslice, some s => match aw.elems esz s with
      | some (k, l) => some (.val (.int .i64 0), aw)
      | none => none
    | _, _ => none
  | .clear zero x => fun fr aw => match x.ev fr with
    | some .nilslice => some (.val (.tuple []), aw)
    | some (.slice b off len _) => match len with
      | 0 => some (.val (.tuple []), aw)
      | len => match aw.store b off ((List.replicate len zero).flatten) with
        | some aw' => some (.val (.tuple []), aw')
        | none => none
    | _ => none
  | .clearMap x => fun fr aw => match x.ev fr with
    | some m => match aw.entries m with
      | some (none, _, _) => some (.val (.tuple []), aw)
      | some (some b, _, ck) => some (.val (.tuple []), aw.turn b (.map [] ck))
      | none => none
    | none => none
  | .call f args => fun fr aw => match f.ev fr, evs fr args with
    | some (.func (.func f) first cap), some args => some (.call f (first ++ args ++ cap), aw)
    | _, _ => none
  | .inv tbl x args => fun fr aw => match x.ev fr, evs fr args with
    | some (.iface t v), some args => match lookT tbl t with
      | some (f, none) => some (.call f (v :: args), aw)
      | some (f, some (sz, agg)) => match v with
        | .ptr b off => match agg with
          | true => match aw.load b off sz with
            | some l => some (.call f (.agg l :: args), aw)
            | none => none
          | false => match aw.load b off 1 with
            | some [u] => some (.call f (u :: args), aw)
            | _ => none
        | _ => none
      | none => none
    | _, _ => none
  | .rangeMap x => fun fr aw => match x.ev fr with
    | some m => match aw.entries m with
      | some (b, _, ck) => some (.val (.ptr aw.next 0), aw.new (.mapIter b (match b with | some _ => ck | none => 0) [] (match b with | some _ => ck | none => 0)))
      | none => none
    | none => none
  | .nextMap x => fun fr aw => match x.ev fr with
    | some (.ptr r 0) => match aw.heap.get r with
      | some (.mapIter none _ _ _) => some (.val (.tuple [.bool false]), aw)
      | some (.mapIter (some b) since seen last) => match aw.heap.get b with
        | some (.map es ck) => match Nat.beq ck last, es with
          | true, [] => some (.val (.tuple [.bool false]), aw)
          | true, [(k, v, n)] => match seen with
            | [] => if n < since then some (.val (.tuple [.bool true, k, v]), aw.turn r (.mapIter (some b) since [n] ck)) else none
            | [q] => if q = n ∧ n < last then some (.val (.tuple [.bool false]), aw) else none
            | _ => none
          | _, _ => none
        | _ => none
      | _ => none
    | _ => none

theorem aopK_eq (o : AOp) (fr : Fr) (aw : AW) : aopK o fr aw = aop o fr aw := by cases o <;> rfl

def xOneK (x : XTab) (rec : X) (o : AOper) (fr : Fr) (aw : AW) : Option (V × AW) :=
  match wanted fr o.guard with
  | some true => match aopK o.op fr aw with
    | some (.val v, aw1) => some (v, aw1)
    | some (.skip, aw1) => some (.undef, aw1)
    | some (.call f args, aw0) => match x.ext f args aw0 with
      | some v => some (v, aw0)
      | none => xCall x rec f args aw0
    | none => none
  | some false => some (.undef, aw)
  | none => none
theorem xOneK_eq (x : XTab) (rec : X) (o : AOper) (fr : Fr) (aw : AW) : xOneK x rec o fr aw = xOne x rec o fr aw := by
  unfold xOneK xOne; rw [aopK_eq] <;> rfl
def xOpsK (x : XTab) (rec : X) : List AOper → Fr → AW → Option (Fr × AW)
  | [], fr, aw => some (fr, aw)
  | o :: l, fr, aw => match xOneK x rec o fr aw with
    | some (v, aw1) => xOpsK x rec l (putO fr o.dst v) aw1
    | none => none
theorem xOpsK_eq (x : XTab) (rec : X) : ∀ (l : List AOper) (fr : Fr) (aw : AW), xOpsK x rec l fr aw = xOps x rec l fr aw
  | [], fr, aw => rfl
  | o :: l, fr, aw => by
    simp only [xOpsK, xOps, xOneK_eq]
    cases xOne x rec o fr aw with
    | none => rfl
    | some r => exact xOpsK_eq x rec l _ _
def xStepK (x : XTab) (rec : X) : X := fun c => match c with
  | .skip => fun fr aw => some (.normal, fr, aw)
  | .region l => fun fr aw => match xOpsK x rec l fr aw with
    | some (fr', aw') => some (.normal, fr', aw')
    | none => none
  | .drawn l => fun fr aw => xStep x rec (.drawn l) fr aw
  | .seq a b => fun fr aw => match rec a fr aw with
    | some (.normal, fr1, aw1) => rec b fr1 aw1
    | r => r
  | .cond c a b => fun fr aw => match c.ev fr with
    | some (.bool true) => rec a fr aw
    | some (.bool false) => rec b fr aw
    | _ => none
  | .block id b => fun fr aw => match rec b fr aw with
    | some (.exit id', fr1, aw1) => match Nat.beq id' id with
      | true => some (.normal, fr1, aw1)
      | false => some (.exit id', fr1, aw1)
    | r => r
  | .loop b => fun fr aw => match rec b fr aw with
    | some (.normal, fr1, aw1) => rec (.loop b) fr1 aw1
    | r => r
  | .exit id => fun fr aw => some (.exit id, fr, aw)
  | .scope b => fun fr aw => rec b fr aw
  | .ret => fun fr aw => some (.ret, fr, aw)
theorem xStepK_eq (x : XTab) (rec : X) (c : ACode) (fr : Fr) (aw : AW) : xStepK x rec c fr aw = xStep x rec c fr aw := by
  cases c <;> try rfl
  rename_i l
  simp only [xStepK, xStep, xOpsK_eq] <;> rfl
def xRunK (x : XTab) (n : Nat) : X := Nat.rec (fun _ _ _ => none) (fun _ ih => xStepK x ih) n
theorem xRunK_eq (x : XTab) : ∀ n, xRunK x n = xRun x n
  | 0 => rfl
  | n + 1 => by
    show xStepK x (xRunK x n) = xStep x (xRun x n)
    rw [xRunK_eq x n]
    funext c fr aw
    exact xStepK_eq _ _ _ _ _
theorem runK_true {x : XTab} {n f : Nat} {args : List V} {aw : AW} (h : isTrue (xCall x (xRunK x n) f args aw) = true) : isTrue (xCall x (xRun x n) f args aw) = true := by
  rw [← xRunK_eq]; exact h
end Go.AE

set_option linter.unusedVariables false
set_option linter.unusedSimpArgs false
open Go.RowKit
namespace Go.AE
theorem BR.same {aw : AW} {m : Map} {w w' : World} {b : Nat} {e : Emb} (h : w'.heap[e.c]? = w.heap[e.c]?) : ∀ {x : Blk}, BR aw m w b e x → BR aw m w' b e x := by
  intro x hx
  cases x with
  | cells l sh => intro ha; obtain ⟨cur, t, lo, hi, h1, h2⟩ := hx ha; exact ⟨cur, t, lo, hi, h.trans h1, h2⟩
  | map es ck => obtain ⟨es', h1, h2⟩ := hx; exact ⟨es', h.trans h1, h2⟩
  | mapIter x s q l => obtain ⟨h0, r, h1, h2⟩ := hx; exact ⟨h0, r, h.trans h1, h2⟩
theorem R.below {aw : AW} {w w' : World} {m : Map} {base : Nat} (hR : R aw w m base) (h : Below w.heap.size w w') : R aw w' m base ∧ Goes aw aw w w' m m := by
  have hb : ∀ b e, m b = some e → w'.heap[e.c]? = w.heap[e.c]? := fun b e he => h.block e.c (hR.lt b e he).2
  refine ⟨⟨hR.famlt, Nat.le_trans hR.size h.size, fun b e he => ⟨(hR.lt b e he).1, Nat.lt_of_lt_of_le (hR.lt b e he).2 h.size⟩, hR.base, fun b e x he hx => (hR.blk b e x he hx).same (hb b e he), hR.apart, hR.fam⟩, ?_⟩
  exact ⟨.refl m, fun b e he => .inl he, Nat.le_refl _, h.size, h.os, h.tape, h.output, fun b l hl _ => hl, fun b l hl _ => ⟨l, hl⟩, fun c hc _ => h.block c hc, fun b _ hx => hx, fun _ _ _ => rfl⟩
def idxN : List Nat → Nat → Option Nat
  | [], _ => none
  | b :: l, c => match Nat.beq b c with
    | true => some 0
    | false => match idxN l c with
      | some n => some (n + 1)
      | none => none
def idxV (o : Option Nat) : V :=
  match o with
  | some n => .int .i64 (Int.ofNat n)
  | none => .int .i64 (-1)
def extIdx (args : List V) : Option V :=
  match args with
  | [.str l, .int .u8 (.ofNat c)] => match Nat.blt c 256 with
    | true => some (idxV (idxN l c))
    | false => none
  | _ => none
theorem idxN_ok {c : Nat} (hc : c < 256) : ∀ (l : List UInt8), V.int .i64 (Lib.indexByte l c.toUInt8) = idxV (idxN (l.map UInt8.toNat) c)
  | [] => rfl
  | b :: l => by
    have ih := idxN_ok hc l
    have hb : (b == c.toUInt8) = Nat.beq b.toNat c := by
      cases h : Nat.beq b.toNat c with
      | true =>
        have := Nat.eq_of_beq_eq_true h
        rw [beq_iff_eq]
        apply UInt8.toNat.inj
        rw [this]
        simp only [Nat.toUInt8, UInt8.toNat_ofNat']
        omega
      | false =>
        rw [beq_eq_false_iff_ne]
        intro he
        subst he
        have : (Nat.toUInt8 c).toNat = c := by simp only [Nat.toUInt8, UInt8.toNat_ofNat']; omega
        rw [this, Nat.beq_refl] at h; cases h
    simp only [Lib.indexByte, List.map_cons, idxN]
    rw [hb]
    cases h : Nat.beq b.toNat c with
    | true => rfl
    | false =>
      simp only [Bool.false_eq_true, if_false]
      cases hn : idxN (l.map UInt8.toNat) c with
      | none =>
        rw [hn] at ih
        simp only [idxV, V.int.injEq, true_and] at ih ⊢
        rw [ih]; rfl
      | some n =>
        rw [hn] at ih
        simp only [idxV, V.int.injEq, true_and] at ih ⊢
        rw [ih]
        have : (Int.ofNat n == -1) = false := by rw [beq_eq_false_iff_ne]; intro hh; cases hh
        rw [this]
        rfl
theorem extIdx_ok {P : Program} {f : Nat} {fn : Func} (hf : P.funcs[f]? = some fn) (h1 : (fn.name == "runtime.NumGoroutine") = false) (h2 : fn.body.isNone = true) (h3 : Extern.findNext fn = none) (h4 : Extern.find fn = some Extern.BytealgIndexByte.indexByte)
    {args : List V} {v : V} (h : extIdx args = some v) (w : World) (m : Map) (args' : Array Value) (hargs : VRs m args args'.toList) : ∃ v', (callFunc f args').run P w = .ok (.value v') w ∧ VR m v v' := by
  unfold extIdx at h
  split at h
  · rename_i l c
    split at h
    · rename_i hc
      cases h
      have hc := Nat.blt_eq.mp hc
      obtain ⟨y, ys, e1, ⟨s, rfl, hs⟩, e2⟩ := hargs
      obtain ⟨y2, ys2, e3, rfl, e4⟩ := e2
      cases e4
      obtain rfl : args' = #[.string s, .int .u8 (Int.ofNat c)] := by cases args'; simp_all
      refine ⟨_, by rw [run_callFunc_extern hf h1 h2 h3 h4, Lib.run_indexByteString]; rfl, ?_⟩
      have hx := idxN_ok hc s.data.toList
      have hl : s.data.toList.map UInt8.toNat = l := hs
      rw [hl] at hx
      rw [← hx]
      rfl
    · cases h
  · cases h
end Go.AE

set_option linter.unusedVariables false
set_option linter.unusedSimpArgs false
namespace Go.Proofs.Ytjidefnbancmfaa
open Go.AE Delphi
variable {tab : Tab}
theorem run_ok (C : Codes tab) {s : List Nat} {g : Nat} {p : Nat → Bool} {aw : AW} {K : V → AW → Prop} (hp : ∀ {c : Nat} {aw : AW} {K : V → AW → Prop}, c ∈ s → K (.bool (p c)) aw → WF tab g [.int .u8 (Int.ofNat c)] aw K)
    (hs : s.length ≤ 4611686018427387904) (h : K (.int .i64 (Int.ofNat (s.takeWhile p).length)) aw) : WF tab n_lex_run [.str s, .func (.func g) [] []] aw K := by
  refine WF_of C.c_lex_run rfl ?_
  refine WS_run 1000 (by simp only [go_sem, eRun_exit, Nat.reduceAdd, Nat.reduceLT, Nat.reduceEqDiff, reduceIte, reduceCtorEq, Nat.reduceLeDiff, k_lex_run]; rfl) ?_
  refine WS_loop (fun n f w => ∃ k, f.get 0 = some (.str s) ∧ f.get 1 = some (.func (.func g) [] []) ∧ f.get 5 = some (.int .i64 (Int.ofNat k)) ∧ (s.takeWhile p = s.take k ++ (s.drop k).takeWhile p) ∧ k ≤ s.length ∧ n = s.length - k ∧ w = aw) ?_ s.length ⟨0, (by simp only [go_sem, eRun_exit, Nat.reduceAdd, Nat.reduceLT, Nat.reduceEqDiff, reduceIte, reduceCtorEq, Nat.reduceLeDiff] <;> rfl), (by simp only [go_sem, eRun_exit, Nat.reduceAdd, Nat.reduceLT, Nat.reduceEqDiff, reduceIte, reduceCtorEq, Nat.reduceLeDiff] <;> rfl), (by simp only [go_sem, eRun_exit, Nat.reduceAdd, Nat.reduceLT, Nat.reduceEqDiff, reduceIte, reduceCtorEq, Nat.reduceLeDiff] <;> rfl), by simp, by omega, rfl, rfl⟩
  rintro n f w ⟨k, f0, f1, f5, htw, hk, rfl, rfl⟩ ih
  by_cases hlt : k < s.length
  · obtain ⟨c, hc⟩ : ∃ c, s[k]? = some c := ⟨s[k], by simp [hlt]⟩
    have hd : s.drop k = c :: s.drop (k + 1) := by
      rw [List.drop_eq_getElem_cons hlt]; simp [List.getElem?_eq_getElem hlt] at hc; rw [hc]
    have e2 : IntKind.wrap .i64 (Int.ofNat k + 1) = Int.ofNat (k + 1) := wrap_succ (by omega)
    refine WS_run 1000 (by simp only [go_sem, eRun_exit, Nat.reduceAdd, Nat.reduceLT, Nat.reduceEqDiff, reduceIte, reduceCtorEq, Nat.reduceLeDiff, k_lex_run_p0, f0, f1, f5, hlt, hc]; rfl) ?_
    refine WS_call (by simp only [go_sem, eRun_exit, Nat.reduceAdd, Nat.reduceLT, Nat.reduceEqDiff, reduceIte, reduceCtorEq, Nat.reduceLeDiff]) (by simp only [go_sem, eRun_exit, Nat.reduceAdd, Nat.reduceLT, Nat.reduceEqDiff, reduceIte, reduceCtorEq, Nat.reduceLeDiff]; rfl) ?_
    refine hp (List.mem_of_getElem? hc) ?_
    cases hpc : p c
    · refine WS_run 1000 (by simp only [go_sem, eRun_exit, Nat.reduceAdd, Nat.reduceLT, Nat.reduceEqDiff, reduceIte, reduceCtorEq, Nat.reduceLeDiff, f5]; rfl) ?_
      refine WS_ret ⟨_, by simp only [go_sem, eRun_exit, Nat.reduceAdd, Nat.reduceLT, Nat.reduceEqDiff, reduceIte, reduceCtorEq, Nat.reduceLeDiff, k_lex_run]; rfl, ?_⟩
      rw [hd, List.takeWhile_cons_of_neg (by simp [hpc]), List.append_nil] at htw
      rw [htw, List.length_take, Nat.min_eq_left (by omega)] at h
      exact h
    · refine WS_run 1000 (by simp only [go_sem, eRun_exit, Nat.reduceAdd, Nat.reduceLT, Nat.reduceEqDiff, reduceIte, reduceCtorEq, Nat.reduceLeDiff, f5, e2]; rfl) ?_
      refine ih (s.length - (k + 1)) _ _ (by omega) ⟨k + 1, (by simp only [go_sem, eRun_exit, Nat.reduceAdd, Nat.reduceLT, Nat.reduceEqDiff, reduceIte, reduceCtorEq, Nat.reduceLeDiff, f0] <;> rfl), (by simp only [go_sem, eRun_exit, Nat.reduceAdd, Nat.reduceLT, Nat.reduceEqDiff, reduceIte, reduceCtorEq, Nat.reduceLeDiff, f1] <;> rfl), (by simp only [go_sem, eRun_exit, Nat.reduceAdd, Nat.reduceLT, Nat.reduceEqDiff, reduceIte, reduceCtorEq, Nat.reduceLeDiff] <;> rfl), ?_, by omega, rfl, rfl⟩
      rw [htw, hd, List.takeWhile_cons_of_pos hpc, List.take_add_one, hc]; simp
  · have hk2 : k = s.length := by omega
    refine WS_run 1000 (by simp only [go_sem, eRun_exit, Nat.reduceAdd, Nat.reduceLT, Nat.reduceEqDiff, reduceIte, reduceCtorEq, Nat.reduceLeDiff, k_lex_run_p0, f0, f1, f5, hlt]; rfl) ?_
    refine WS_ret ⟨_, by simp only [go_sem, eRun_exit, Nat.reduceAdd, Nat.reduceLT, Nat.reduceEqDiff, reduceIte, reduceCtorEq, Nat.reduceLeDiff, k_lex_run]; rfl, ?_⟩
    subst hk2
    simp at htw
    rw [htw] at h
    exact h
theorem isPrefix_take {g s : List Nat} : g.isPrefixOf s = (decide (g.length ≤ s.length) && eqL (s.take g.length) g) := by
  have e : ∀ (a b : List Nat), eqL a b = decide (a = b) := fun a b => by
    cases h : eqL a b with
    | true => simp [eqL_iff.1 h]
    | false => simp only [Bool.false_eq, decide_eq_false_iff_not]; intro hh; rw [eqL_iff.2 hh] at h; cases h
  rw [Bool.eq_iff_iff, List.isPrefixOf_iff_prefix, e]
  simp only [Bool.and_eq_true, decide_eq_true_eq]
  constructor
  · intro h; exact ⟨h.length_le, (List.prefix_iff_eq_take.1 h).symm⟩
  · intro h; exact List.prefix_iff_eq_take.2 h.2.symm
def wdCells (w : Wd) : List V := [.int .i64 (Int.ofNat w.kind), .str w.text, .int .i64 (Int.ofNat w.at')]
def wdsCells (l : List Wd) : List V := l.flatMap wdCells
theorem wdsCells_snoc (l : List Wd) (w : Wd) : wdsCells (l ++ [w]) = wdsCells l ++ wdCells w := by simp [wdsCells]
end Go.Proofs.Ytjidefnbancmfaa

set_option linter.unusedVariables false
set_option linter.unusedSimpArgs false
namespace Go.Proofs.Ytjidefnbancmfaa
open Go.AE Delphi
variable {tab : Tab}
theorem rsmall_ok (C : Codes tab) {c : Nat} {aw : AW} {K : V → AW → Prop} (h : K (.bool (isSmall c)) aw) : WF tab n_ref8_small [.int .u8 (Int.ofNat c)] aw K := by
  refine WF_of C.c_ref8_small rfl ?_
  unfold isSmall at h
  cases h1 : decide (97 ≤ c) <;> rw [h1] at h <;> refine WS_run 1000 (by simp only [go_sem, eRun_exit, Nat.reduceAdd, Nat.reduceLT, Nat.reduceEqDiff, reduceIte, reduceCtorEq, Nat.reduceLeDiff, k_ref8_small, h1]; rfl) ?_ <;> refine WS_ret ⟨_, by simp only [go_sem, eRun_exit, Nat.reduceAdd, Nat.reduceLT, Nat.reduceEqDiff, reduceIte, reduceCtorEq, Nat.reduceLeDiff, k_ref8_small]; rfl, ?_⟩ <;> exact h
theorem rdigit_ok (C : Codes tab) {c : Nat} {aw : AW} {K : V → AW → Prop} (h : K (.bool (isDigit c)) aw) : WF tab n_ref8_digit [.int .u8 (Int.ofNat c)] aw K := by
  refine WF_of C.c_ref8_digit rfl ?_
  unfold isDigit at h
  cases h1 : decide (48 ≤ c) <;> rw [h1] at h <;> refine WS_run 1000 (by simp only [go_sem, eRun_exit, Nat.reduceAdd, Nat.reduceLT, Nat.reduceEqDiff, reduceIte, reduceCtorEq, Nat.reduceLeDiff, k_ref8_digit, h1]; rfl) ?_ <;> refine WS_ret ⟨_, by simp only [go_sem, eRun_exit, Nat.reduceAdd, Nat.reduceLT, Nat.reduceEqDiff, reduceIte, reduceCtorEq, Nat.reduceLeDiff, k_ref8_digit]; rfl, ?_⟩ <;> exact h
theorem rgreat_ok (C : Codes tab) {c : Nat} {aw : AW} {K : V → AW → Prop} (h : K (.bool (isGreat c)) aw) : WF tab n_ref8_great [.int .u8 (Int.ofNat c)] aw K := by
  refine WF_of C.c_ref8_great rfl ?_
  unfold isGreat at h
  cases h1 : decide (65 ≤ c) <;> rw [h1] at h <;> refine WS_run 1000 (by simp only [go_sem, eRun_exit, Nat.reduceAdd, Nat.reduceLT, Nat.reduceEqDiff, reduceIte, reduceCtorEq, Nat.reduceLeDiff, k_ref8_great, h1]; rfl) ?_ <;> refine WS_ret ⟨_, by simp only [go_sem, eRun_exit, Nat.reduceAdd, Nat.reduceLT, Nat.reduceEqDiff, reduceIte, reduceCtorEq, Nat.reduceLeDiff, k_ref8_great]; rfl, ?_⟩ <;> exact h
theorem rl0 (C : Codes tab) {c : Nat} {t : List Nat} {S : List SI} {Q : Fr → AW → Prop} {fr : Fr} {aw : AW} (hs : (c :: t).length ≤ 4611686018427387904) {k0 : Nat}
    (hk0' : k0 ≤ (c :: t).length) (f0 : fr.get 0 = some (.str (c :: t))) (f4 : fr.get 4 = some (.int .i64 (Int.ofNat k0)))
    (h : ∀ f, f.get 0 = some (.str (c :: t)) → f.get 4 = some (.int .i64 (Int.ofNat ((k0 + (((c :: t).drop k0).takeWhile isNamed).length)))) → WS tab S f aw Q) :
    WS tab (.code (.loop k_ref8_word_p0) :: .endB 1 :: S) fr aw Q := by
  refine WS_loop (fun n f w => ∃ k, f.get 0 = some (.str (c :: t)) ∧ f.get 4 = some (.int .i64 (Int.ofNat k)) ∧ k0 + (((c :: t).drop k0).takeWhile isNamed).length = k + (((c :: t).drop k).takeWhile isNamed).length ∧ k ≤ (c :: t).length ∧ n = (c :: t).length - k ∧ w = aw) ?_ ((c :: t).length - k0) ⟨k0, f0, f4, rfl, hk0', rfl, rfl⟩
  rintro n f w ⟨k, f0, f4, hk, hkl, rfl, rfl⟩ ih
  generalize hS : c :: t = s at *
  by_cases hlt : k < s.length
  · obtain ⟨d, hc⟩ : ∃ d, s[k]? = some d := ⟨_, List.getElem?_eq_getElem hlt⟩
    have hd : s.drop k = d :: s.drop (k + 1) := by
      rw [List.drop_eq_getElem_cons hlt]; rw [List.getElem?_eq_getElem hlt] at hc; rw [Option.some.inj hc]
    have hw : IntKind.wrap .i64 (Int.ofNat k + 1) = Int.ofNat (k + 1) := wrap_succ (by omega)
    have yes : isNamed d = true → ∀ f', f'.get 0 = some (.str s) → f'.get 4 = some (.int .i64 (Int.ofNat (k + 1))) → WS tab (.code (.loop k_ref8_word_p0) :: .endB 1 :: S) f' w Q := by
      intro hp f' g0 g4
      refine ih (s.length - (k + 1)) _ _ (by omega) ⟨k + 1, g0, g4, ?_, by omega, rfl, rfl⟩
      rw [hk, hd, List.takeWhile_cons_of_pos hp, List.length_cons]; omega
    have no : isNamed d = false → ∀ f', f'.get 0 = some (.str s) → f'.get 4 = some (.int .i64 (Int.ofNat k)) → WS tab S f' w Q := by
      intro hp f' g0 g4
      refine h f' g0 ?_
      rw [hk, hd, List.takeWhile_cons_of_neg (by simp [hp])]; simpa using g4
    refine WS_run 1000 (by simp only [go_sem, eRun_exit, Nat.reduceAdd, Nat.reduceLT, Nat.reduceEqDiff, reduceIte, reduceCtorEq, Nat.reduceLeDiff, k_ref8_word_p0, f0, f4, hlt, hc]; rfl) ?_
    refine WS_call (by simp only [go_sem, eRun_exit, Nat.reduceAdd, Nat.reduceLT, Nat.reduceEqDiff, reduceIte, reduceCtorEq, Nat.reduceLeDiff]) (by simp only [go_sem, eRun_exit, Nat.reduceAdd, Nat.reduceLT, Nat.reduceEqDiff, reduceIte, reduceCtorEq, Nat.reduceLeDiff]; rfl) ?_
    refine rsmall_ok C ?_
    cases q1 : isSmall d with
    | true =>
      refine WS_run 1000 (by simp only [go_sem, eRun_exit, Nat.reduceAdd, Nat.reduceLT, Nat.reduceEqDiff, reduceIte, reduceCtorEq, Nat.reduceLeDiff, f4, hw]; rfl) ?_
      exact yes (by simp [isNamed, q1]) _ (by simp only [go_sem, eRun_exit, Nat.reduceAdd, Nat.reduceLT, Nat.reduceEqDiff, reduceIte, reduceCtorEq, Nat.reduceLeDiff, f0] <;> rfl) (by simp only [go_sem, eRun_exit, Nat.reduceAdd, Nat.reduceLT, Nat.reduceEqDiff, reduceIte, reduceCtorEq, Nat.reduceLeDiff] <;> rfl)
    | false =>
      refine WS_run 1000 (by simp only [go_sem, eRun_exit, Nat.reduceAdd, Nat.reduceLT, Nat.reduceEqDiff, reduceIte, reduceCtorEq, Nat.reduceLeDiff, f0, f4, hc]; rfl) ?_
      refine WS_call (by simp only [go_sem, eRun_exit, Nat.reduceAdd, Nat.reduceLT, Nat.reduceEqDiff, reduceIte, reduceCtorEq, Nat.reduceLeDiff]) (by simp only [go_sem, eRun_exit, Nat.reduceAdd, Nat.reduceLT, Nat.reduceEqDiff, reduceIte, reduceCtorEq, Nat.reduceLeDiff]; rfl) ?_
      refine rdigit_ok C ?_
      cases q2 : isDigit d with
      | true =>
        refine WS_run 1000 (by simp only [go_sem, eRun_exit, Nat.reduceAdd, Nat.reduceLT, Nat.reduceEqDiff, reduceIte, reduceCtorEq, Nat.reduceLeDiff, f4, hw]; rfl) ?_
        exact yes (by simp [isNamed, q1, q2]) _ (by simp only [go_sem, eRun_exit, Nat.reduceAdd, Nat.reduceLT, Nat.reduceEqDiff, reduceIte, reduceCtorEq, Nat.reduceLeDiff, f0] <;> rfl) (by simp only [go_sem, eRun_exit, Nat.reduceAdd, Nat.reduceLT, Nat.reduceEqDiff, reduceIte, reduceCtorEq, Nat.reduceLeDiff] <;> rfl)
      | false =>
        by_cases h95 : d = 95
        · refine WS_run 1000 (by simp only [go_sem, eRun_exit, Nat.reduceAdd, Nat.reduceLT, Nat.reduceEqDiff, reduceIte, reduceCtorEq, Nat.reduceLeDiff, f0, f4, hc, h95, hw]; rfl) ?_
          exact yes (by simp [isNamed, q1, q2, h95]) _ (by simp only [go_sem, eRun_exit, Nat.reduceAdd, Nat.reduceLT, Nat.reduceEqDiff, reduceIte, reduceCtorEq, Nat.reduceLeDiff, f0] <;> rfl) (by simp only [go_sem, eRun_exit, Nat.reduceAdd, Nat.reduceLT, Nat.reduceEqDiff, reduceIte, reduceCtorEq, Nat.reduceLeDiff] <;> rfl)
        · refine WS_runB 1000 (by simp only [go_sem, eRun_exit, Nat.reduceAdd, Nat.reduceLT, Nat.reduceEqDiff, reduceIte, reduceCtorEq, Nat.reduceLeDiff, f0, f4, hc, h95]; rfl) ?_
          exact no (by simp [isNamed, q1, q2, h95]) _ (by simp only [go_sem, eRun_exit, Nat.reduceAdd, Nat.reduceLT, Nat.reduceEqDiff, reduceIte, reduceCtorEq, Nat.reduceLeDiff, f0] <;> rfl) (by simp only [go_sem, eRun_exit, Nat.reduceAdd, Nat.reduceLT, Nat.reduceEqDiff, reduceIte, reduceCtorEq, Nat.reduceLeDiff, f4] <;> rfl)
  · refine WS_runB 1000 (by simp only [go_sem, eRun_exit, Nat.reduceAdd, Nat.reduceLT, Nat.reduceEqDiff, reduceIte, reduceCtorEq, Nat.reduceLeDiff, k_ref8_word_p0, f0, f4, hlt]; rfl) ?_
    refine h _ (by simp only [go_sem, eRun_exit, Nat.reduceAdd, Nat.reduceLT, Nat.reduceEqDiff, reduceIte, reduceCtorEq, Nat.reduceLeDiff, f0] <;> rfl) ?_
    have : k = s.length := by omega
    subst this
    rw [hk, List.drop_length]
    exact (by simp only [go_sem, eRun_exit, Nat.reduceAdd, Nat.reduceLT, Nat.reduceEqDiff, reduceIte, reduceCtorEq, Nat.reduceLeDiff, f4] <;> rfl)
theorem rl1 (C : Codes tab) {c : Nat} {t : List Nat} {S : List SI} {Q : Fr → AW → Prop} {fr : Fr} {aw : AW} (hs : (c :: t).length ≤ 4611686018427387904) {k0 : Nat}
    (hk0' : k0 ≤ (c :: t).length) (f0 : fr.get 0 = some (.str (c :: t))) (f4 : fr.get 4 = some (.int .i64 (Int.ofNat k0)))
    (h : ∀ f, f.get 0 = some (.str (c :: t)) → f.get 4 = some (.int .i64 (Int.ofNat ((k0 + (((c :: t).drop k0).takeWhile isVarC).length)))) → WS tab S f aw Q) :
    WS tab (.code (.loop k_ref8_word_p1) :: .endB 3 :: S) fr aw Q := by
  refine WS_loop (fun n f w => ∃ k, f.get 0 = some (.str (c :: t)) ∧ f.get 4 = some (.int .i64 (Int.ofNat k)) ∧ k0 + (((c :: t).drop k0).takeWhile isVarC).length = k + (((c :: t).drop k).takeWhile isVarC).length ∧ k ≤ (c :: t).length ∧ n = (c :: t).length - k ∧ w = aw) ?_ ((c :: t).length - k0) ⟨k0, f0, f4, rfl, hk0', rfl, rfl⟩
  rintro n f w ⟨k, f0, f4, hk, hkl, rfl, rfl⟩ ih
  generalize hS : c :: t = s at *
  by_cases hlt : k < s.length
  · obtain ⟨d, hc⟩ : ∃ d, s[k]? = some d := ⟨_, List.getElem?_eq_getElem hlt⟩
    have hd : s.drop k = d :: s.drop (k + 1) := by
      rw [List.drop_eq_getElem_cons hlt]; rw [List.getElem?_eq_getElem hlt] at hc; rw [Option.some.inj hc]
    have hw : IntKind.wrap .i64 (Int.ofNat k + 1) = Int.ofNat (k + 1) := wrap_succ (by omega)
    have yes : isVarC d = true → ∀ f', f'.get 0 = some (.str s) → f'.get 4 = some (.int .i64 (Int.ofNat (k + 1))) → WS tab (.code (.loop k_ref8_word_p1) :: .endB 3 :: S) f' w Q := by
      intro hp f' g0 g4
      refine ih (s.length - (k + 1)) _ _ (by omega) ⟨k + 1, g0, g4, ?_, by omega, rfl, rfl⟩
      rw [hk, hd, List.takeWhile_cons_of_pos hp, List.length_cons]; omega
    have no : isVarC d = false → ∀ f', f'.get 0 = some (.str s) → f'.get 4 = some (.int .i64 (Int.ofNat k)) → WS tab S f' w Q := by
      intro hp f' g0 g4
      refine h f' g0 ?_
      rw [hk, hd, List.takeWhile_cons_of_neg (by simp [hp])]; simpa using g4
    refine WS_run 1000 (by simp only [go_sem, eRun_exit, Nat.reduceAdd, Nat.reduceLT, Nat.reduceEqDiff, reduceIte, reduceCtorEq, Nat.reduceLeDiff, k_ref8_word_p1, f0, f4, hlt, hc]; rfl) ?_
    refine WS_call (by simp only [go_sem, eRun_exit, Nat.reduceAdd, Nat.reduceLT, Nat.reduceEqDiff, reduceIte, reduceCtorEq, Nat.reduceLeDiff]) (by simp only [go_sem, eRun_exit, Nat.reduceAdd, Nat.reduceLT, Nat.reduceEqDiff, reduceIte, reduceCtorEq, Nat.reduceLeDiff]; rfl) ?_
    refine rsmall_ok C ?_
    cases q1 : isSmall d with
    | true =>
      refine WS_run 1000 (by simp only [go_sem, eRun_exit, Nat.reduceAdd, Nat.reduceLT, Nat.reduceEqDiff, reduceIte, reduceCtorEq, Nat.reduceLeDiff, f4, hw]; rfl) ?_
      exact yes (by simp [isVarC, isNamed, q1]) _ (by simp only [go_sem, eRun_exit, Nat.reduceAdd, Nat.reduceLT, Nat.reduceEqDiff, reduceIte, reduceCtorEq, Nat.reduceLeDiff, f0] <;> rfl) (by simp only [go_sem, eRun_exit, Nat.reduceAdd, Nat.reduceLT, Nat.reduceEqDiff, reduceIte, reduceCtorEq, Nat.reduceLeDiff] <;> rfl)
    | false =>
      refine WS_run 1000 (by simp only [go_sem, eRun_exit, Nat.reduceAdd, Nat.reduceLT, Nat.reduceEqDiff, reduceIte, reduceCtorEq, Nat.reduceLeDiff, f0, f4, hc]; rfl) ?_
      refine WS_call (by simp only [go_sem, eRun_exit, Nat.reduceAdd, Nat.reduceLT, Nat.reduceEqDiff, reduceIte, reduceCtorEq, Nat.reduceLeDiff]) (by simp only [go_sem, eRun_exit, Nat.reduceAdd, Nat.reduceLT, Nat.reduceEqDiff, reduceIte, reduceCtorEq, Nat.reduceLeDiff]; rfl) ?_
      refine rgreat_ok C ?_
      cases q2 : isGreat d with
      | true =>
        refine WS_run 1000 (by simp only [go_sem, eRun_exit, Nat.reduceAdd, Nat.reduceLT, Nat.reduceEqDiff, reduceIte, reduceCtorEq, Nat.reduceLeDiff, f4, hw]; rfl) ?_
        exact yes (by simp [isVarC, isNamed, q1, q2]) _ (by simp only [go_sem, eRun_exit, Nat.reduceAdd, Nat.reduceLT, Nat.reduceEqDiff, reduceIte, reduceCtorEq, Nat.reduceLeDiff, f0] <;> rfl) (by simp only [go_sem, eRun_exit, Nat.reduceAdd, Nat.reduceLT, Nat.reduceEqDiff, reduceIte, reduceCtorEq, Nat.reduceLeDiff] <;> rfl)
      | false =>
        refine WS_run 1000 (by simp only [go_sem, eRun_exit, Nat.reduceAdd, Nat.reduceLT, Nat.reduceEqDiff, reduceIte, reduceCtorEq, Nat.reduceLeDiff, f0, f4, hc]; rfl) ?_
        refine WS_call (by simp only [go_sem, eRun_exit, Nat.reduceAdd, Nat.reduceLT, Nat.reduceEqDiff, reduceIte, reduceCtorEq, Nat.reduceLeDiff]) (by simp only [go_sem, eRun_exit, Nat.reduceAdd, Nat.reduceLT, Nat.reduceEqDiff, reduceIte, reduceCtorEq, Nat.reduceLeDiff]; rfl) ?_
        refine rdigit_ok C ?_
        cases q3 : isDigit d with
        | true =>
          refine WS_run 1000 (by simp only [go_sem, eRun_exit, Nat.reduceAdd, Nat.reduceLT, Nat.reduceEqDiff, reduceIte, reduceCtorEq, Nat.reduceLeDiff, f4, hw]; rfl) ?_
          exact yes (by simp [isVarC, isNamed, q1, q2, q3]) _ (by simp only [go_sem, eRun_exit, Nat.reduceAdd, Nat.reduceLT, Nat.reduceEqDiff, reduceIte, reduceCtorEq, Nat.reduceLeDiff, f0] <;> rfl) (by simp only [go_sem, eRun_exit, Nat.reduceAdd, Nat.reduceLT, Nat.reduceEqDiff, reduceIte, reduceCtorEq, Nat.reduceLeDiff] <;> rfl)
        | false =>
          by_cases h95 : d = 95
          · refine WS_run 1000 (by simp only [go_sem, eRun_exit, Nat.reduceAdd, Nat.reduceLT, Nat.reduceEqDiff, reduceIte, reduceCtorEq, Nat.reduceLeDiff, f0, f4, hc, h95, hw]; rfl) ?_
            exact yes (by simp [isVarC, isNamed, q1, q2, q3, h95]) _ (by simp only [go_sem, eRun_exit, Nat.reduceAdd, Nat.reduceLT, Nat.reduceEqDiff, reduceIte, reduceCtorEq, Nat.reduceLeDiff, f0] <;> rfl) (by simp only [go_sem, eRun_exit, Nat.reduceAdd, Nat.reduceLT, Nat.reduceEqDiff, reduceIte, reduceCtorEq, Nat.reduceLeDiff] <;> rfl)
          · refine WS_runB 1000 (by simp only [go_sem, eRun_exit, Nat.reduceAdd, Nat.reduceLT, Nat.reduceEqDiff, reduceIte, reduceCtorEq, Nat.reduceLeDiff, f0, f4, hc, h95]; rfl) ?_
            exact no (by simp [isVarC, isNamed, q1, q2, q3, h95]) _ (by simp only [go_sem, eRun_exit, Nat.reduceAdd, Nat.reduceLT, Nat.reduceEqDiff, reduceIte, reduceCtorEq, Nat.reduceLeDiff, f0] <;> rfl) (by simp only [go_sem, eRun_exit, Nat.reduceAdd, Nat.reduceLT, Nat.reduceEqDiff, reduceIte, reduceCtorEq, Nat.reduceLeDiff, f4] <;> rfl)
  · refine WS_runB 1000 (by simp only [go_sem, eRun_exit, Nat.reduceAdd, Nat.reduceLT, Nat.reduceEqDiff, reduceIte, reduceCtorEq, Nat.reduceLeDiff, k_ref8_word_p1, f0, f4, hlt]; rfl) ?_
    refine h _ (by simp only [go_sem, eRun_exit, Nat.reduceAdd, Nat.reduceLT, Nat.reduceEqDiff, reduceIte, reduceCtorEq, Nat.reduceLeDiff, f0] <;> rfl) ?_
    have : k = s.length := by omega
    subst this
    rw [hk, List.drop_length]
    exact (by simp only [go_sem, eRun_exit, Nat.reduceAdd, Nat.reduceLT, Nat.reduceEqDiff, reduceIte, reduceCtorEq, Nat.reduceLeDiff, f4] <;> rfl)
theorem rl3 (C : Codes tab) {c : Nat} {t : List Nat} {S : List SI} {Q : Fr → AW → Prop} {fr : Fr} {aw : AW} (hs : (c :: t).length ≤ 4611686018427387904) {k0 : Nat}
    (hk0' : k0 ≤ (c :: t).length) (f0 : fr.get 0 = some (.str (c :: t))) (f4 : fr.get 4 = some (.int .i64 (Int.ofNat k0)))
    (h : ∀ f, f.get 0 = some (.str (c :: t)) → f.get 4 = some (.int .i64 (Int.ofNat ((k0 + (((c :: t).drop k0).takeWhile isDigit).length)))) → WS tab S f aw Q) :
    WS tab (.code (.loop k_ref8_word_p3) :: .endB 5 :: S) fr aw Q := by
  refine WS_loop (fun n f w => ∃ k, f.get 0 = some (.str (c :: t)) ∧ f.get 4 = some (.int .i64 (Int.ofNat k)) ∧ k0 + (((c :: t).drop k0).takeWhile isDigit).length = k + (((c :: t).drop k).takeWhile isDigit).length ∧ k ≤ (c :: t).length ∧ n = (c :: t).length - k ∧ w = aw) ?_ ((c :: t).length - k0) ⟨k0, f0, f4, rfl, hk0', rfl, rfl⟩
  rintro n f w ⟨k, f0, f4, hk, hkl, rfl, rfl⟩ ih
  generalize hS : c :: t = s at *
  by_cases hlt : k < s.length
  · obtain ⟨d, hc⟩ : ∃ d, s[k]? = some d := ⟨_, List.getElem?_eq_getElem hlt⟩
    have hd : s.drop k = d :: s.drop (k + 1) := by
      rw [List.drop_eq_getElem_cons hlt]; rw [List.getElem?_eq_getElem hlt] at hc; rw [Option.some.inj hc]
    have hw : IntKind.wrap .i64 (Int.ofNat k + 1) = Int.ofNat (k + 1) := wrap_succ (by omega)
    have yes : isDigit d = true → ∀ f', f'.get 0 = some (.str s) → f'.get 4 = some (.int .i64 (Int.ofNat (k + 1))) → WS tab (.code (.loop k_ref8_word_p3) :: .endB 5 :: S) f' w Q := by
      intro hp f' g0 g4
      refine ih (s.length - (k + 1)) _ _ (by omega) ⟨k + 1, g0, g4, ?_, by omega, rfl, rfl⟩
      rw [hk, hd, List.takeWhile_cons_of_pos hp, List.length_cons]; omega
    have no : isDigit d = false → ∀ f', f'.get 0 = some (.str s) → f'.get 4 = some (.int .i64 (Int.ofNat k)) → WS tab S f' w Q := by
      intro hp f' g0 g4
      refine h f' g0 ?_
      rw [hk, hd, List.takeWhile_cons_of_neg (by simp [hp])]; simpa using g4
    refine WS_run 1000 (by simp only [go_sem, eRun_exit, Nat.reduceAdd, Nat.reduceLT, Nat.reduceEqDiff, reduceIte, reduceCtorEq, Nat.reduceLeDiff, k_ref8_word_p3, f0, f4, hlt, hc]; rfl) ?_
    refine WS_call (by simp only [go_sem, eRun_exit, Nat.reduceAdd, Nat.reduceLT, Nat.reduceEqDiff, reduceIte, reduceCtorEq, Nat.reduceLeDiff]) (by simp only [go_sem, eRun_exit, Nat.reduceAdd, Nat.reduceLT, Nat.reduceEqDiff, reduceIte, reduceCtorEq, Nat.reduceLeDiff]; rfl) ?_
    refine rdigit_ok C ?_
    cases q1 : isDigit d with
    | true =>
      refine WS_run 1000 (by simp only [go_sem, eRun_exit, Nat.reduceAdd, Nat.reduceLT, Nat.reduceEqDiff, reduceIte, reduceCtorEq, Nat.reduceLeDiff, f4, hw]; rfl) ?_
      exact yes (by simp [q1]) _ (by simp only [go_sem, eRun_exit, Nat.reduceAdd, Nat.reduceLT, Nat.reduceEqDiff, reduceIte, reduceCtorEq, Nat.reduceLeDiff, f0] <;> rfl) (by simp only [go_sem, eRun_exit, Nat.reduceAdd, Nat.reduceLT, Nat.reduceEqDiff, reduceIte, reduceCtorEq, Nat.reduceLeDiff] <;> rfl)
    | false =>
      refine WS_runB 1000 (by simp only [go_sem, eRun_exit, Nat.reduceAdd, Nat.reduceLT, Nat.reduceEqDiff, reduceIte, reduceCtorEq, Nat.reduceLeDiff]; rfl) ?_
      exact no (by simp [q1]) _ (by simp only [go_sem, eRun_exit, Nat.reduceAdd, Nat.reduceLT, Nat.reduceEqDiff, reduceIte, reduceCtorEq, Nat.reduceLeDiff, f0] <;> rfl) (by simp only [go_sem, eRun_exit, Nat.reduceAdd, Nat.reduceLT, Nat.reduceEqDiff, reduceIte, reduceCtorEq, Nat.reduceLeDiff, f4] <;> rfl)
  · refine WS_runB 1000 (by simp only [go_sem, eRun_exit, Nat.reduceAdd, Nat.reduceLT, Nat.reduceEqDiff, reduceIte, reduceCtorEq, Nat.reduceLeDiff, k_ref8_word_p3, f0, f4, hlt]; rfl) ?_
    refine h _ (by simp only [go_sem, eRun_exit, Nat.reduceAdd, Nat.reduceLT, Nat.reduceEqDiff, reduceIte, reduceCtorEq, Nat.reduceLeDiff, f0] <;> rfl) ?_
    have : k = s.length := by omega
    subst this
    rw [hk, List.drop_length]
    exact (by simp only [go_sem, eRun_exit, Nat.reduceAdd, Nat.reduceLT, Nat.reduceEqDiff, reduceIte, reduceCtorEq, Nat.reduceLeDiff, f4] <;> rfl)
end Go.Proofs.Ytjidefnbancmfaa

set_option linter.unusedVariables false
set_option linter.unusedSimpArgs false
namespace Go.Proofs.Ytjidefnbancmfaa
open Go.AE Delphi
variable {tab : Tab}
def twos : List (List Nat) := [[58, 45], [33, 61], [60, 61]]
def ones : List (List Nat) := [[40], [41], [44], [46], [33], [61], [60]]
theorem signs_find (p : List Nat → Bool) : signs.find? p = (match twos.find? p with | some g => some g | none => ones.find? p) := by
  show (twos ++ ones).find? p = _
  rw [List.find?_append]
  cases twos.find? p <;> rfl
def isOne (c : Nat) : Bool := decide (c = 40) || (decide (c = 41) || (decide (c = 44) || (decide (c = 46) || (decide (c = 33) || (decide (c = 61) || decide (c = 60))))))
theorem ones_find (c : Nat) (t : List Nat) : ones.find? (fun g => g.isPrefixOf (c :: t)) = if isOne c then some [c] else none := by
  simp only [ones, isOne]
  by_cases h1 : c = 40
  · subst h1; rfl
  by_cases h2 : c = 41
  · subst h2; rfl
  by_cases h3 : c = 44
  · subst h3; rfl
  by_cases h4 : c = 46
  · subst h4; rfl
  by_cases h5 : c = 33
  · subst h5; rfl
  by_cases h6 : c = 61
  · subst h6; rfl
  by_cases h7 : c = 60
  · subst h7; rfl
  have e : ∀ n : Nat, ¬ c = n → (n == c) = false := fun n hn => beq_eq_false_iff_ne.2 (Ne.symm hn)
  simp [List.find?, List.isPrefixOf, h1, h2, h3, h4, h5, h6, h7, e 40 h1, e 41 h2, e 44 h3, e 46 h4, e 33 h5, e 61 h6, e 60 h7]
theorem two_prefix {g s : List Nat} (hg : g.length = 2) : g.isPrefixOf s = (decide (2 ≤ s.length) && eqL (s.take 2) g) := by
  rw [isPrefix_take, hg]
def k48s : ACode := (.seq (.region [⟨some 112, none, .buildSlice 3 [(.str []), (.str []), (.str [])] [(0, 1, (.const (.str [58, 45]))), (1, 1, (.const (.str [33, 61]))), (2, 1, (.const (.str [60, 61])))]⟩,
  ⟨some 5, none, .mov (.tmp 112)⟩])
 (.seq (.seq (.region [⟨some 6, none, .mov (.const (.int .i64 0))⟩])
 (.block 7 (.loop k_ref8_word_p9)))
 (.seq (.seq (.region [⟨some 129, none, .mov (.tmp 0)⟩,
  ⟨some 130, none, .indexStr (.tmp 129) (.const (.int .i64 0))⟩])
 (.block 9 k_ref8_word_p13))
 (.seq (.region [⟨some 2, none, .mov (.const (.int .i64 0))⟩,
  ⟨some 3, none, .mov (.const (.int .i64 0))⟩])
 .ret))))
set_option maxRecDepth 10000 in
theorem rword_ok (C : Codes tab) {c : Nat} {t : List Nat} {aw : AW} {K : V → AW → Prop} (hs : (c :: t).length ≤ 4611686018427387904)
    (h : ∀ kind aw', ((lexWord (c :: t)).2 ≠ 0 → kind = (lexWord (c :: t)).1) → Ext aw.next aw aw' → K (.tuple [.int .i64 (Int.ofNat (lexWord (c :: t)).2), .int .i64 (Int.ofNat kind)]) aw') : WF tab n_ref8_word [.str (c :: t)] aw K := by
  refine WF_of C.c_ref8_word rfl ?_
  have h1l : 1 ≤ (c :: t).length := by simp
  refine WS_run 1000 (by simp only [go_sem, eRun_exit, Nat.reduceAdd, Nat.reduceLT, Nat.reduceEqDiff, reduceIte, reduceCtorEq, Nat.reduceLeDiff, k_ref8_word, k_ref8_word_p7]; rfl) ?_
  refine WS_call (by simp only [go_sem, eRun_exit, Nat.reduceAdd, Nat.reduceLT, Nat.reduceEqDiff, reduceIte, reduceCtorEq, Nat.reduceLeDiff]) (by simp only [go_sem, eRun_exit, Nat.reduceAdd, Nat.reduceLT, Nat.reduceEqDiff, reduceIte, reduceCtorEq, Nat.reduceLeDiff]; rfl) ?_
  refine rsmall_ok C ?_
  cases h1 : isSmall c with
  | true =>
    have hl : lexWord (c :: t) = (1, 1 + (t.takeWhile isNamed).length) := by
      have : isNamed c = true := by simp [isNamed, h1]
      simp only [lexWord, h1, if_true, List.takeWhile_cons_of_pos this, List.length_cons, Nat.add_comm]
    rw [hl] at h
    refine WS_run 1000 (by simp only [go_sem, eRun_exit, Nat.reduceAdd, Nat.reduceLT, Nat.reduceEqDiff, reduceIte, reduceCtorEq, Nat.reduceLeDiff]; rfl) ?_
    refine rl0 C hs h1l (by simp only [go_sem, eRun_exit, Nat.reduceAdd, Nat.reduceLT, Nat.reduceEqDiff, reduceIte, reduceCtorEq, Nat.reduceLeDiff] <;> rfl) (by simp only [go_sem, eRun_exit, Nat.reduceAdd, Nat.reduceLT, Nat.reduceEqDiff, reduceIte, reduceCtorEq, Nat.reduceLeDiff] <;> rfl) ?_
    intro f f0 f4
    simp only [List.drop_succ_cons, List.drop_zero] at f4
    refine WS_run 1000 (by simp only [go_sem, eRun_exit, Nat.reduceAdd, Nat.reduceLT, Nat.reduceEqDiff, reduceIte, reduceCtorEq, Nat.reduceLeDiff, f4]; rfl) ?_
    refine WS_ret ⟨_, by simp only [go_sem, eRun_exit, Nat.reduceAdd, Nat.reduceLT, Nat.reduceEqDiff, reduceIte, reduceCtorEq, Nat.reduceLeDiff, k_ref8_word]; rfl, ?_⟩
    exact h 1 aw (fun _ => rfl) (Ext.refl aw)
  | false =>
    refine WS_run 1000 (by simp only [go_sem, eRun_exit, Nat.reduceAdd, Nat.reduceLT, Nat.reduceEqDiff, reduceIte, reduceCtorEq, Nat.reduceLeDiff, k_ref8_word_p6]; rfl) ?_
    refine WS_call (by simp only [go_sem, eRun_exit, Nat.reduceAdd, Nat.reduceLT, Nat.reduceEqDiff, reduceIte, reduceCtorEq, Nat.reduceLeDiff]) (by simp only [go_sem, eRun_exit, Nat.reduceAdd, Nat.reduceLT, Nat.reduceEqDiff, reduceIte, reduceCtorEq, Nat.reduceLeDiff]; rfl) ?_
    refine rgreat_ok C ?_
    cases h2 : isGreat c with
    | true =>
      have hl : lexWord (c :: t) = (2, 1 + (t.takeWhile isVarC).length) := by
        have : isVarC c = true := by simp [isVarC, h2]
        simp only [lexWord, h1, h2, if_true, Bool.false_eq_true, if_false, List.takeWhile_cons_of_pos this, List.length_cons, Nat.add_comm]
      rw [hl] at h
      refine WS_run 1000 (by simp only [go_sem, eRun_exit, Nat.reduceAdd, Nat.reduceLT, Nat.reduceEqDiff, reduceIte, reduceCtorEq, Nat.reduceLeDiff]; rfl) ?_
      refine rl1 C hs h1l (by simp only [go_sem, eRun_exit, Nat.reduceAdd, Nat.reduceLT, Nat.reduceEqDiff, reduceIte, reduceCtorEq, Nat.reduceLeDiff] <;> rfl) (by simp only [go_sem, eRun_exit, Nat.reduceAdd, Nat.reduceLT, Nat.reduceEqDiff, reduceIte, reduceCtorEq, Nat.reduceLeDiff] <;> rfl) ?_
      intro f f0 f4
      simp only [List.drop_succ_cons, List.drop_zero] at f4
      refine WS_run 1000 (by simp only [go_sem, eRun_exit, Nat.reduceAdd, Nat.reduceLT, Nat.reduceEqDiff, reduceIte, reduceCtorEq, Nat.reduceLeDiff, f4]; rfl) ?_
      refine WS_ret ⟨_, by simp only [go_sem, eRun_exit, Nat.reduceAdd, Nat.reduceLT, Nat.reduceEqDiff, reduceIte, reduceCtorEq, Nat.reduceLeDiff, k_ref8_word]; rfl, ?_⟩
      exact h 2 aw (fun _ => rfl) (Ext.refl aw)
    | false =>
      refine WS_run 1000 (by simp only [go_sem, eRun_exit, Nat.reduceAdd, Nat.reduceLT, Nat.reduceEqDiff, reduceIte, reduceCtorEq, Nat.reduceLeDiff, k_ref8_word_p5]; rfl) ?_
      refine WS_call (by simp only [go_sem, eRun_exit, Nat.reduceAdd, Nat.reduceLT, Nat.reduceEqDiff, reduceIte, reduceCtorEq, Nat.reduceLeDiff]) (by simp only [go_sem, eRun_exit, Nat.reduceAdd, Nat.reduceLT, Nat.reduceEqDiff, reduceIte, reduceCtorEq, Nat.reduceLeDiff]; rfl) ?_
      refine rdigit_ok C ?_
      cases h3 : isDigit c with
      | true =>
        have h45 : ¬ c = 45 := by intro he; subst he; revert h3; decide
        have hd : (isDigit c || decide (c = 45)) = true := by simp [h3]
        have hl : lexWord (c :: t) = (3, if c = 48 then 1 else 1 + (t.takeWhile isDigit).length) := by
          simp only [lexWord, h1, h2, hd, if_true, Bool.false_eq_true, if_false, Prod.mk.injEq, true_and]
          unfold numberLen
          simp only [List.head?_cons, Option.some.injEq, h45, if_false, List.drop_zero, List.takeWhile_cons_of_pos h3, List.length_cons, List.getElem?_cons_zero]
          rw [if_neg (by omega), if_neg (by omega)]
          split
          · rfl
          · omega
        rw [hl] at h
        by_cases h48 : c = 48
        · refine WS_run 1000 (by simp only [go_sem, eRun_exit, Nat.reduceAdd, Nat.reduceLT, Nat.reduceEqDiff, reduceIte, reduceCtorEq, Nat.reduceLeDiff, k_ref8_word_p4, h45, h48]; rfl) ?_
          refine WS_ret ⟨_, by simp only [go_sem, eRun_exit, Nat.reduceAdd, Nat.reduceLT, Nat.reduceEqDiff, reduceIte, reduceCtorEq, Nat.reduceLeDiff, k_ref8_word]; rfl, ?_⟩
          rw [if_pos h48] at h
          exact h 3 aw (fun _ => rfl) (Ext.refl aw)
        · refine WS_run 1000 (by simp only [go_sem, eRun_exit, Nat.reduceAdd, Nat.reduceLT, Nat.reduceEqDiff, reduceIte, reduceCtorEq, Nat.reduceLeDiff, k_ref8_word_p4, h45, h48]; rfl) ?_
          refine rl3 C hs h1l (by simp only [go_sem, eRun_exit, Nat.reduceAdd, Nat.reduceLT, Nat.reduceEqDiff, reduceIte, reduceCtorEq, Nat.reduceLeDiff] <;> rfl) (by simp only [go_sem, eRun_exit, Nat.reduceAdd, Nat.reduceLT, Nat.reduceEqDiff, reduceIte, reduceCtorEq, Nat.reduceLeDiff] <;> rfl) ?_
          intro f f0 f4
          simp only [List.drop_succ_cons, List.drop_zero] at f4
          refine WS_run 1000 (by simp only [go_sem, eRun_exit, Nat.reduceAdd, Nat.reduceLT, Nat.reduceEqDiff, reduceIte, reduceCtorEq, Nat.reduceLeDiff, f4]; rfl) ?_
          refine WS_ret ⟨_, by simp only [go_sem, eRun_exit, Nat.reduceAdd, Nat.reduceLT, Nat.reduceEqDiff, reduceIte, reduceCtorEq, Nat.reduceLeDiff, k_ref8_word]; rfl, ?_⟩
          rw [if_neg h48] at h
          exact h 3 aw (fun _ => rfl) (Ext.refl aw)
      | false =>
        -- no number: signs
        have hsg : ∀ fr : Fr, fr.get 0 = some (.str (c :: t)) → ((lexWord (c :: t)).2 = match signs.find? (fun g => g.isPrefixOf (c :: t)) with | some g => g.length | none => 0) → ((lexWord (c :: t)).2 ≠ 0 → (lexWord (c :: t)).1 = 4) →
            WS tab [.code k48s] fr aw (fun fr' aw' => ∃ vs, resV fr' aw' k_ref8_word.results = some vs ∧ K (resOne vs) aw') := by
          intro fr f0 hn hk
          rw [signs_find, ones_find] at hn
          refine WS_run 1000 (by simp only [go_sem, eRun_exit, Nat.reduceAdd, Nat.reduceLT, Nat.reduceEqDiff, reduceIte, reduceCtorEq, Nat.reduceLeDiff, k48s, evParts, fillV, V.cells, List.length_cons, List.length_nil, over]; rfl) ?_
          have hload : ∀ (i : Nat) (g : List Nat), twos[i]? = some g → (aw.fresh [.str [58, 45], .str [33, 61], .str [60, 61]]).load aw.next (0 + i * 1) 1 = some [.str g] := by
            intro i g hg
            have hi : i < 3 := (List.getElem?_eq_some_iff.1 hg).1
            simp only [AW.load, AW.fresh, AW.new, T.get_putk, if_true, AW.alive, Nat.zero_add, Nat.mul_one]
            match i, hi with
            | 0, _ | 1, _ | 2, _ => simp [twos] at hg; subst hg; rfl
          have hext : Ext aw.next aw (aw.fresh [.str [58, 45], .str [33, 61], .str [60, 61]]) := Ext.new (Nat.le_refl _) _
          generalize aw.fresh [.str [58, 45], .str [33, 61], .str [60, 61]] = aw1 at hload hext
          refine WS_loop (fun n f w => ∃ i, f.get 0 = some (.str (c :: t)) ∧ f.get 5 = some (.slice aw.next 0 3 (.known 3)) ∧ f.get 6 = some (.int .i64 (Int.ofNat i)) ∧ twos.find? (fun g => g.isPrefixOf (c :: t)) = (twos.drop i).find? (fun g => g.isPrefixOf (c :: t)) ∧ i ≤ 3 ∧ n = 3 - i ∧ w = aw1) ?_ 3 ⟨0, (by simp only [go_sem, eRun_exit, Nat.reduceAdd, Nat.reduceLT, Nat.reduceEqDiff, reduceIte, reduceCtorEq, Nat.reduceLeDiff, f0] <;> rfl), (by simp only [go_sem, eRun_exit, Nat.reduceAdd, Nat.reduceLT, Nat.reduceEqDiff, reduceIte, reduceCtorEq, Nat.reduceLeDiff] <;> rfl), (by simp only [go_sem, eRun_exit, Nat.reduceAdd, Nat.reduceLT, Nat.reduceEqDiff, reduceIte, reduceCtorEq, Nat.reduceLeDiff] <;> rfl), rfl, by omega, rfl, rfl⟩
          rintro n f w ⟨i, f0, f5, f6, hf, hi, rfl, rfl⟩ ih
          by_cases hlt : i < 3
          · obtain ⟨g, hg⟩ : ∃ g, twos[i]? = some g := ⟨_, List.getElem?_eq_getElem (by simpa [twos] using hlt)⟩
            have hd : twos.drop i = g :: twos.drop (i + 1) := by
              have hl : i < twos.length := by simpa [twos] using hlt
              rw [List.drop_eq_getElem_cons hl]
              rw [List.getElem?_eq_getElem hl] at hg
              rw [Option.some.inj hg]
            have hg2 : g.length = 2 := by
              have hm := List.mem_of_getElem? hg
              simp only [twos, List.mem_cons, List.not_mem_nil, or_false] at hm
              rcases hm with rfl | rfl | rfl <;> rfl
            have hld := hload i g hg
            have hw : IntKind.wrap .i64 (Int.ofNat i + 1) = Int.ofNat (i + 1) := wrap_succ (by omega)
            have next : g.isPrefixOf (c :: t) = false → ∀ f', f'.get 0 = some (.str (c :: t)) → f'.get 5 = some (.slice aw.next 0 3 (.known 3)) → f'.get 6 = some (.int .i64 (Int.ofNat (i + 1))) → WS tab _ f' w _ := fun hp f' g0 g5 g6 =>
              ih (3 - (i + 1)) f' w (by omega) ⟨i + 1, g0, g5, g6, by rw [hf, hd, List.find?_cons_of_neg (by simp [hp])], by omega, rfl, rfl⟩
            by_cases hl2 : 2 ≤ (c :: t).length
            · have hz : 0 ≤ 2 := by omega
              have hp := two_prefix (g := g) (s := c :: t) hg2
              rw [decide_eq_true hl2, Bool.true_and] at hp
              cases he : eqL ((c :: t).take 2) g with
              | true =>
                rw [he] at hp
                refine WS_run 1000 (by simp only [go_sem, eRun_exit, Nat.reduceAdd, Nat.reduceLT, Nat.reduceEqDiff, reduceIte, reduceCtorEq, Nat.reduceLeDiff, k_ref8_word_p9, k_ref8_word_p8, f0, f5, f6, hlt, hl2, hz, hld, List.drop_zero, Nat.sub_zero, strS, he]; rfl) ?_
                refine WS_ret ⟨_, by simp only [go_sem, eRun_exit, Nat.reduceAdd, Nat.reduceLT, Nat.reduceEqDiff, reduceIte, reduceCtorEq, Nat.reduceLeDiff, k_ref8_word]; rfl, ?_⟩
                rw [hf, hd, List.find?_cons_of_pos (by simpa using hp)] at hn
                simp only [hg2] at hn
                have := h 4 w (fun hne => (hk hne).symm) hext
                rw [hn] at this
                exact this
              | false =>
                rw [he] at hp
                refine WS_run 1000 (by simp only [go_sem, eRun_exit, Nat.reduceAdd, Nat.reduceLT, Nat.reduceEqDiff, reduceIte, reduceCtorEq, Nat.reduceLeDiff, k_ref8_word_p9, k_ref8_word_p8, f0, f5, f6, hlt, hl2, hz, hld, List.drop_zero, Nat.sub_zero, strS, he, hw]; rfl) ?_
                exact next hp _ (by simp only [go_sem, eRun_exit, Nat.reduceAdd, Nat.reduceLT, Nat.reduceEqDiff, reduceIte, reduceCtorEq, Nat.reduceLeDiff, f0] <;> rfl) (by simp only [go_sem, eRun_exit, Nat.reduceAdd, Nat.reduceLT, Nat.reduceEqDiff, reduceIte, reduceCtorEq, Nat.reduceLeDiff, f5] <;> rfl) (by simp only [go_sem, eRun_exit, Nat.reduceAdd, Nat.reduceLT, Nat.reduceEqDiff, reduceIte, reduceCtorEq, Nat.reduceLeDiff] <;> rfl)
            · have hp : g.isPrefixOf (c :: t) = false := by rw [two_prefix hg2, decide_eq_false hl2]; rfl
              refine WS_run 1000 (by simp only [go_sem, eRun_exit, Nat.reduceAdd, Nat.reduceLT, Nat.reduceEqDiff, reduceIte, reduceCtorEq, Nat.reduceLeDiff, k_ref8_word_p9, k_ref8_word_p8, f0, f5, f6, hlt, hl2, hw]; rfl) ?_
              exact next hp _ (by simp only [go_sem, eRun_exit, Nat.reduceAdd, Nat.reduceLT, Nat.reduceEqDiff, reduceIte, reduceCtorEq, Nat.reduceLeDiff, f0] <;> rfl) (by simp only [go_sem, eRun_exit, Nat.reduceAdd, Nat.reduceLT, Nat.reduceEqDiff, reduceIte, reduceCtorEq, Nat.reduceLeDiff, f5] <;> rfl) (by simp only [go_sem, eRun_exit, Nat.reduceAdd, Nat.reduceLT, Nat.reduceEqDiff, reduceIte, reduceCtorEq, Nat.reduceLeDiff] <;> rfl)
          · have : i = 3 := by omega
            subst this
            have hno : twos.find? (fun g => g.isPrefixOf (c :: t)) = none := by rw [hf]; rfl
            rw [hno] at hn
            simp only at hn
            refine WS_runB 1000 (by simp only [go_sem, eRun_exit, Nat.reduceAdd, Nat.reduceLT, Nat.reduceEqDiff, reduceIte, reduceCtorEq, Nat.reduceLeDiff, k_ref8_word_p9, f0, f6, hlt]; rfl) ?_
            have yes : isOne c = true → K (.tuple [.int .i64 1, .int .i64 4]) w := by
              intro ho
              rw [if_pos ho] at hn
              simp only [List.length_cons, List.length_nil] at hn
              have := h 4 w (fun hne => (hk hne).symm) hext
              rw [hn] at this
              exact this
            have no : isOne c = false → K (.tuple [.int .i64 0, .int .i64 0]) w := by
              intro ho
              rw [ho] at hn
              simp only [Bool.false_eq_true, if_false] at hn
              have := h 0 w (fun hne => absurd hn hne) hext
              rw [hn] at this
              exact this
            unfold isOne at yes no
            by_cases c40 : c = 40
            · refine WS_run 1000 (by simp only [go_sem, eRun_exit, Nat.reduceAdd, Nat.reduceLT, Nat.reduceEqDiff, reduceIte, reduceCtorEq, Nat.reduceLeDiff, k_ref8_word_p13, k_ref8_word_p12, k_ref8_word_p11, k_ref8_word_p10, f0, c40]; rfl) ?_
              refine WS_ret ⟨_, by simp only [go_sem, eRun_exit, Nat.reduceAdd, Nat.reduceLT, Nat.reduceEqDiff, reduceIte, reduceCtorEq, Nat.reduceLeDiff, k_ref8_word]; rfl, ?_⟩
              exact yes (by simp [c40])
            by_cases c41 : c = 41
            · refine WS_run 1000 (by simp only [go_sem, eRun_exit, Nat.reduceAdd, Nat.reduceLT, Nat.reduceEqDiff, reduceIte, reduceCtorEq, Nat.reduceLeDiff, k_ref8_word_p13, k_ref8_word_p12, k_ref8_word_p11, k_ref8_word_p10, f0, c40, c41]; rfl) ?_
              refine WS_ret ⟨_, by simp only [go_sem, eRun_exit, Nat.reduceAdd, Nat.reduceLT, Nat.reduceEqDiff, reduceIte, reduceCtorEq, Nat.reduceLeDiff, k_ref8_word]; rfl, ?_⟩
              exact yes (by simp [c41])
            by_cases c44 : c = 44
            · refine WS_run 1000 (by simp only [go_sem, eRun_exit, Nat.reduceAdd, Nat.reduceLT, Nat.reduceEqDiff, reduceIte, reduceCtorEq, Nat.reduceLeDiff, k_ref8_word_p13, k_ref8_word_p12, k_ref8_word_p11, k_ref8_word_p10, f0, c40, c41, c44]; rfl) ?_
              refine WS_ret ⟨_, by simp only [go_sem, eRun_exit, Nat.reduceAdd, Nat.reduceLT, Nat.reduceEqDiff, reduceIte, reduceCtorEq, Nat.reduceLeDiff, k_ref8_word]; rfl, ?_⟩
              exact yes (by simp [c44])
            by_cases c46 : c = 46
            · refine WS_run 1000 (by simp only [go_sem, eRun_exit, Nat.reduceAdd, Nat.reduceLT, Nat.reduceEqDiff, reduceIte, reduceCtorEq, Nat.reduceLeDiff, k_ref8_word_p13, k_ref8_word_p12, k_ref8_word_p11, k_ref8_word_p10, f0, c40, c41, c44, c46]; rfl) ?_
              refine WS_ret ⟨_, by simp only [go_sem, eRun_exit, Nat.reduceAdd, Nat.reduceLT, Nat.reduceEqDiff, reduceIte, reduceCtorEq, Nat.reduceLeDiff, k_ref8_word]; rfl, ?_⟩
              exact yes (by simp [c46])
            by_cases c33 : c = 33
            · refine WS_run 1000 (by simp only [go_sem, eRun_exit, Nat.reduceAdd, Nat.reduceLT, Nat.reduceEqDiff, reduceIte, reduceCtorEq, Nat.reduceLeDiff, k_ref8_word_p13, k_ref8_word_p12, k_ref8_word_p11, k_ref8_word_p10, f0, c40, c41, c44, c46, c33]; rfl) ?_
              refine WS_ret ⟨_, by simp only [go_sem, eRun_exit, Nat.reduceAdd, Nat.reduceLT, Nat.reduceEqDiff, reduceIte, reduceCtorEq, Nat.reduceLeDiff, k_ref8_word]; rfl, ?_⟩
              exact yes (by simp [c33])
            by_cases c61 : c = 61
            · refine WS_run 1000 (by simp only [go_sem, eRun_exit, Nat.reduceAdd, Nat.reduceLT, Nat.reduceEqDiff, reduceIte, reduceCtorEq, Nat.reduceLeDiff, k_ref8_word_p13, k_ref8_word_p12, k_ref8_word_p11, k_ref8_word_p10, f0, c40, c41, c44, c46, c33, c61]; rfl) ?_
              refine WS_ret ⟨_, by simp only [go_sem, eRun_exit, Nat.reduceAdd, Nat.reduceLT, Nat.reduceEqDiff, reduceIte, reduceCtorEq, Nat.reduceLeDiff, k_ref8_word]; rfl, ?_⟩
              exact yes (by simp [c61])
            by_cases c60 : c = 60
            · refine WS_run 1000 (by simp only [go_sem, eRun_exit, Nat.reduceAdd, Nat.reduceLT, Nat.reduceEqDiff, reduceIte, reduceCtorEq, Nat.reduceLeDiff, k_ref8_word_p13, k_ref8_word_p12, k_ref8_word_p11, k_ref8_word_p10, f0, c40, c41, c44, c46, c33, c61, c60]; rfl) ?_
              refine WS_ret ⟨_, by simp only [go_sem, eRun_exit, Nat.reduceAdd, Nat.reduceLT, Nat.reduceEqDiff, reduceIte, reduceCtorEq, Nat.reduceLeDiff, k_ref8_word]; rfl, ?_⟩
              exact yes (by simp [c60])
            refine WS_run 1000 (by simp only [go_sem, eRun_exit, Nat.reduceAdd, Nat.reduceLT, Nat.reduceEqDiff, reduceIte, reduceCtorEq, Nat.reduceLeDiff, k_ref8_word_p13, k_ref8_word_p12, k_ref8_word_p11, k_ref8_word_p10, f0, c40, c41, c44, c46, c33, c61, c60]; rfl) ?_
            refine WS_ret ⟨_, by simp only [go_sem, eRun_exit, Nat.reduceAdd, Nat.reduceLT, Nat.reduceEqDiff, reduceIte, reduceCtorEq, Nat.reduceLeDiff, k_ref8_word]; rfl, ?_⟩
            exact no (by simp [c40, c41, c44, c46, c33, c61, c60])
        have hne : (lexWord (c :: t)).2 = 0 → ¬ isDigit c = true → c = 45 → ∀ fr : Fr, fr.get 0 = some (.str (c :: t)) → WS tab [.code k48s] fr aw (fun fr' aw' => ∃ vs, resV fr' aw' k_ref8_word.results = some vs ∧ K (resOne vs) aw') := by
          intro hz _ he fr f0
          refine hsg fr f0 ?_ (fun hn => absurd hz hn)
          rw [hz]; subst he; rfl
        by_cases h45 : c = 45
        · have hl : lexWord (c :: t) = (3, numberLen (c :: t)) := by
            subst h45; rfl
          have e45 : ¬ isDigit c = true := by rw [h3]; simp
          cases t with
          | nil =>
            have hnl : numberLen [c] = 0 := by subst h45; rfl
            refine WS_runB 20 (by simp only [go_sem, eRun_exit, Nat.reduceAdd, Nat.reduceLT, Nat.reduceEqDiff, reduceIte, reduceCtorEq, Nat.reduceLeDiff, h45, List.length_cons, List.length_nil]; rfl) ?_
            refine hne (by rw [hl]; exact hnl) e45 h45 _ (by simp only [go_sem, eRun_exit, Nat.reduceAdd, Nat.reduceLT, Nat.reduceEqDiff, reduceIte, reduceCtorEq, Nat.reduceLeDiff, h45] <;> rfl)
          | cons d u =>
            have hlen : 1 < (45 :: d :: u).length := by simp
            have hh : (c :: d :: u).head? = some 45 := by rw [h45]; rfl
            refine WS_run 1000 (by simp only [go_sem, eRun_exit, Nat.reduceAdd, Nat.reduceLT, Nat.reduceEqDiff, reduceIte, reduceCtorEq, Nat.reduceLeDiff, h45, hlen]; rfl) ?_
            refine WS_call (by simp only [go_sem, eRun_exit, Nat.reduceAdd, Nat.reduceLT, Nat.reduceEqDiff, reduceIte, reduceCtorEq, Nat.reduceLeDiff]) (by simp only [go_sem, eRun_exit, Nat.reduceAdd, Nat.reduceLT, Nat.reduceEqDiff, reduceIte, reduceCtorEq, Nat.reduceLeDiff]; rfl) ?_
            refine rdigit_ok C ?_
            cases hd : isDigit d with
            | false =>
              have hnl : numberLen (c :: d :: u) = 0 := by
                subst h45
                have e0 : ((d :: u).takeWhile isDigit) = [] := List.takeWhile_cons_of_neg (by simp [hd])
                simp [numberLen, e0]
              refine WS_runB 7 (by simp only [go_sem, eRun_exit, Nat.reduceAdd, Nat.reduceLT, Nat.reduceEqDiff, reduceIte, reduceCtorEq, Nat.reduceLeDiff]; rfl) ?_
              refine hne (by rw [hl]; exact hnl) e45 h45 _ (by simp only [go_sem, eRun_exit, Nat.reduceAdd, Nat.reduceLT, Nat.reduceEqDiff, reduceIte, reduceCtorEq, Nat.reduceLeDiff, h45] <;> rfl)
            | true =>
              have hd1 : ((d :: u).takeWhile isDigit).length = 1 + (u.takeWhile isDigit).length := by rw [List.takeWhile_cons_of_pos hd, List.length_cons, Nat.add_comm]
              have hnl : numberLen (c :: d :: u) = if d = 48 then 0 else 1 + (1 + (u.takeWhile isDigit).length) := by
                unfold numberLen
                rw [hh]
                simp only [if_true, List.drop_succ_cons, List.drop_zero, hd1, List.getElem?_cons_succ, List.getElem?_cons_zero, Option.some.injEq, true_and]
                rw [if_neg (by omega)]
                split <;> rfl
              by_cases h48 : d = 48
              · refine WS_run 1000 (by simp only [go_sem, eRun_exit, Nat.reduceAdd, Nat.reduceLT, Nat.reduceEqDiff, reduceIte, reduceCtorEq, Nat.reduceLeDiff, k_ref8_word_p4, k_ref8_word_p2, h48, h45]; rfl) ?_
                refine WS_ret ⟨_, by simp only [go_sem, eRun_exit, Nat.reduceAdd, Nat.reduceLT, Nat.reduceEqDiff, reduceIte, reduceCtorEq, Nat.reduceLeDiff, k_ref8_word]; rfl, ?_⟩
                rw [if_pos h48] at hnl
                have := h 0 aw (fun hn => absurd (by rw [hl]; exact hnl) hn) (Ext.refl aw)
                rw [hl, hnl] at this
                exact this
              · refine WS_run 1000 (by simp only [go_sem, eRun_exit, Nat.reduceAdd, Nat.reduceLT, Nat.reduceEqDiff, reduceIte, reduceCtorEq, Nat.reduceLeDiff, k_ref8_word_p4, k_ref8_word_p2, h48, h45]; rfl) ?_
                refine rl3 (c := 45) (t := d :: u) C (by simpa using hs) (k0 := 2) (by simp) (by simp only [go_sem, eRun_exit, Nat.reduceAdd, Nat.reduceLT, Nat.reduceEqDiff, reduceIte, reduceCtorEq, Nat.reduceLeDiff] <;> rfl) (by simp only [go_sem, eRun_exit, Nat.reduceAdd, Nat.reduceLT, Nat.reduceEqDiff, reduceIte, reduceCtorEq, Nat.reduceLeDiff] <;> rfl) ?_
                intro f f0 f4
                refine WS_run 1000 (by simp only [go_sem, eRun_exit, Nat.reduceAdd, Nat.reduceLT, Nat.reduceEqDiff, reduceIte, reduceCtorEq, Nat.reduceLeDiff, f4]; rfl) ?_
                refine WS_ret ⟨_, by simp only [go_sem, eRun_exit, Nat.reduceAdd, Nat.reduceLT, Nat.reduceEqDiff, reduceIte, reduceCtorEq, Nat.reduceLeDiff, k_ref8_word]; rfl, ?_⟩
                rw [if_neg h48] at hnl
                have := h 3 aw (fun _ => by rw [hl]) (Ext.refl aw)
                rw [hl, hnl] at this
                have e : 2 + (List.takeWhile isDigit (List.drop 2 (45 :: d :: u))).length = 1 + (1 + (u.takeWhile isDigit).length) := by simp; omega
                rw [e]
                exact this
        · have hd : (isDigit c || decide (c = 45)) = false := by simp [h3, h45]
          have hl : lexWord (c :: t) = (match signs.find? (fun g => g.isPrefixOf (c :: t)) with
              | some g => (4, g.length)
              | none => (0, 0)) := by
            simp only [lexWord, h1, h2, hd, Bool.false_eq_true, if_false]; rfl
          refine WS_runB 20 (by simp only [go_sem, eRun_exit, Nat.reduceAdd, Nat.reduceLT, Nat.reduceEqDiff, reduceIte, reduceCtorEq, Nat.reduceLeDiff, h45]; rfl) ?_
          refine hsg _ (by simp only [go_sem, eRun_exit, Nat.reduceAdd, Nat.reduceLT, Nat.reduceEqDiff, reduceIte, reduceCtorEq, Nat.reduceLeDiff] <;> rfl) ?_ ?_
          · rw [hl]; cases signs.find? (fun g => g.isPrefixOf (c :: t)) <;> rfl
          · rw [hl]; cases signs.find? (fun g => g.isPrefixOf (c :: t)) with
            | none => intro hn; exact absurd rfl hn
            | some g => intro _; rfl
end Go.Proofs.Ytjidefnbancmfaa
