/- AE, part 22: code: what the abstract steps come to, the model's code comes to. -/
import Derived.Test.YtjidefnbancmfaaAe21
import Derived.LoopN
set_option linter.unusedVariables false
set_option linter.unusedSimpArgs false
namespace Go.AE

structure TabOK (P : Program) (tab : Tab) : Prop where
  mixed : P.follows .mixedOrders = true
  code : ∀ f af, tab.code f = some af → ∃ fn c, P.funcs[f]? = some fn ∧ fn.body = some c ∧ cFun P fn = some af
  prim : ∀ f args aw v aw', tab.prim f args aw v aw' → (∃ fn, P.funcs[f]? = some fn ∧ fn.body.isSome = true ∧ fn.name ≠ "runtime.NumGoroutine") ∧
    ∀ (w : World) (m : Map) (base : Nat) (args' : Array Value), R aw w m base → VRs m args args'.toList →
      Calls P f args' w fun e w' => ∃ v' m', e = .returned v' ∧ VR m' v v' ∧ R aw' w' m' base ∧ Goes aw aw' w w' m m'
  ext : ∀ f args aw v, tab.ext f args aw v → ∀ (w : World) (m : Map) (base : Nat) (args' : Array Value), R aw w m base → VRs m args args'.toList → ∃ v', (callFunc f args').run P w = .ok (.value v') w ∧ VR m v v'

section
variable {P : Program} {tab : Tab}

def toExit : AExit → Exit
  | .normal => .normal
  | .exit id => .exit id
  | .ret => .ret
/-- what the end must be good for. -/
def Post (N : Nat) (a : Act) (aw : AW) (w : World) (m : Map) (base : Nat) (fr' : Fr) (aw' : AW) (K : Act → World → Prop) : Prop :=
  ∀ (a' : Act) (w' : World) (m' : Map), FR m' N fr' a'.tmps → a'.defers = a.defers → R aw' w' m' base → Goes aw aw' w w' m m' → K a' w'
def GoodX (P : Program) (c : ACode) (fr : Fr) (aw : AW) (e : AExit) (fr' : Fr) (aw' : AW) : Prop :=
  (∀ (code : Code) (N : Nat), cCode P N code = some c → ∀ (a : Act) (w : World) (m : Map) (base : Nat) (Q : Exit → Act → World → Prop), FR m N fr a.tmps → R aw w m base → Post N a aw w m base fr' aw' (Q (toExit e)) → code.wp P Q a w) ∧
  (∀ b, c = .loop b → ∀ (code : Code) (N : Nat), cCode P N code = some b → ∃ n, ∀ (a : Act) (w : World) (m : Map) (base : Nat) (Q : Exit → Act → World → Prop), FR m N fr a.tmps → R aw w m base → Post N a aw w m base fr' aw' (Q (toExit e)) → Code.rounds P code Q n a w)
/-- compiled operations at their places. -/
def At (P : Program) (N : Nat) (ops : Array Oper) : List AOper → List Nat → Prop
  | [], is => is = []
  | a :: l, is => ∃ i r o, is = i :: r ∧ ops[i]? = some o ∧ cOper P N ops o = some a ∧ At P N ops l r
def GoodO (P : Program) (l : List AOper) (fr : Fr) (aw : AW) (fr' : Fr) (aw' : AW) : Prop :=
  ∀ (ops : Array Oper) (N : Nat) (is : List Nat), At P N ops l is → ∀ (a : Act) (w : World) (m : Map) (base : Nat) (Q : Exit → Act → World → Prop), FR m N fr a.tmps → R aw w m base → Post N a aw w m base fr' aw' (Q .normal) → wpOps P ops Q is a w
def GoodC (P : Program) (f : Nat) (args : List V) (aw : AW) (v : V) (aw' : AW) : Prop :=
  (∃ fn, P.funcs[f]? = some fn ∧ fn.body.isSome = true ∧ fn.name ≠ "runtime.NumGoroutine") ∧ ∀ (w : World) (m : Map) (base : Nat) (args' : Array Value), R aw w m base → VRs m args args'.toList →
    Calls P f args' w fun e w' => ∃ v' m', e = .returned v' ∧ VR m' v v' ∧ R aw' w' m' base ∧ Goes aw aw' w w' m m'

theorem Post.trans {N : Nat} {a a1 : Act} {aw aw1 : AW} {w w1 : World} {m m1 : Map} {base : Nat} {fr' : Fr} {aw' : AW} {K : Act → World → Prop} (hR : R aw w m base) (h : Post N a aw w m base fr' aw' K) (hd : a1.defers = a.defers) (hg : Goes aw aw1 w w1 m m1) :
    Post N a1 aw1 w1 m1 base fr' aw' K := fun a' w' m' h1 h2 h3 h4 => h a' w' m' h1 (h2.trans hd) h3 (Goes.trans hR hg h4)
theorem Post.now {N : Nat} {a : Act} {aw : AW} {w : World} {m : Map} {base : Nat} {fr : Fr} {K : Act → World → Prop} (hR : R aw w m base) (hfr : FR m N fr a.tmps) (h : Post N a aw w m base fr aw K) : K a w :=
  h a w m hfr rfl hR (.refl _ _ _)

theorem cOpers_at {N : Nat} {ops : Array Oper} : ∀ {l : List Oper} {r : List AOper} {k : Nat}, cOpers P N ops l = some r → (∀ j, l[j]? = ops[k + j]?) → At P N ops r (List.range' k l.length)
  | [], r, k, h, _ => by cases h; rfl
  | o :: l, r, k, h, hk => by
    simp only [cOpers] at h
    split at h
    · rename_i a ha
      split at h
      · rename_i q hq
        cases h
        refine ⟨k, _, o, ?_, ?_, ha, cOpers_at (k := k + 1) hq (fun j => ?_)⟩
        · simp [List.range'_succ]
        · have := hk 0; simpa using this.symm
        · have := hk (j + 1)
          simp only [List.getElem?_cons_succ] at this
          rw [this]; congr 1; omega
      · cases h
    · cases h
theorem cOper_inv {N : Nat} {ops : Array Oper} {o : Oper} {a : AOper} (h : cOper P N ops o = some a) : cGuard ops o.guard = some a.guard ∧ cOpS P o.op = some a.op ∧ a.dst = o.dst ∧ dstOk N o.dst = true := by
  unfold cOper at h
  split at h
  · cases h; exact ⟨by assumption, by assumption, rfl, by assumption⟩
  · cases h
theorem aop_okS {o : Oper} {act : Act} {aw aw' : AW} {w : World} {m : Map} {base N : Nat} {fr : Fr} (hR : R aw w m base) (hfr : FR m N fr act.tmps) {ao : AOp} {r : Res} (hc : cOpS P o.op = some ao) (h : aop ao fr aw = some (r, aw')) : OpOK P o act aw aw' w m base r := by
  unfold cOpS at hc
  split at hc
  · rename_i a ha; cases hc; exact aop_ok hR hfr ha h
  · cases hc; cases h
theorem wanted_ok {m : Map} {N : Nat} {fr : Fr} {a : Act} (hfr : FR m N fr a.tmps) {ops : Array Oper} {o : Oper} {g : Option (Nat × Bool)} (hg : cGuard ops o.guard = some g) {b : Bool} (h : wanted fr g = some b) :
    Region.wanted o (yielded ops a.tmps) = b := by
  unfold cGuard at hg
  split at hg
  · rename_i hgd
    cases hg
    cases h
    simp [Region.wanted, hgd]
  · rename_i j want hgd
    split at hg
    · rename_i o' ho'
      split at hg
      · rename_i d hd
        cases hg
        simp only [wanted] at h
        split at h
        · rename_i x hx
          cases h
          obtain ⟨v', h1, h2⟩ := hfr.2 _ _ hx
          cases h2
          simp [Region.wanted, hgd, yielded, ho', hd, h1]
        · rename_i hx
          cases h
          obtain ⟨v', h1, h2⟩ := hfr.2 _ _ hx
          cases h2
          simp [Region.wanted, hgd, yielded, ho', hd, h1, undef]
        · cases h
      · cases hg
    · cases hg
theorem FR.put {m : Map} {N : Nat} {fr : Fr} {a : Act} (hfr : FR m N fr a.tmps) {d : Option Nat} (hd : dstOk N d = true) {v : V} {v' : Value} (hv : VR m v v') : FR m N (putO fr d v) (a.put d v').tmps := by
  cases d with
  | none => exact hfr
  | some d =>
    have hlt : d < N := Nat.blt_eq.mp hd
    refine ⟨by simp [Act.put, hfr.1], fun k u hk => ?_⟩
    rcases T.get_put hk with ⟨rfl, rfl⟩ | ⟨h1, h2⟩
    · exact ⟨v', by simp [Act.put, hfr.1, hlt], hv⟩
    · obtain ⟨u', q1, q2⟩ := hfr.2 _ _ h2
      exact ⟨u', by simp [Act.put, Array.getElem?_setIfInBounds_ne (Ne.symm h1), q1], q2⟩
theorem put_defers {a : Act} {d : Option Nat} {v : Value} : (a.put d v).defers = a.defers := by cases d <;> rfl
theorem callFunc_enter {f : Nat} {args : Array Value} {w : World} (h : ∃ fn, P.funcs[f]? = some fn ∧ fn.body.isSome = true ∧ fn.name ≠ "runtime.NumGoroutine") : (callFunc f args).run P w = .ok (.enter f args) w := by
  obtain ⟨fn, h1, h2, h3⟩ := h
  have h5 : fn.body ≠ none := by intro hb; rw [hb] at h2; cases h2
  simp [callFunc, h1, h3, h5]
theorem initFr_ok {m : Map} : ∀ {args : List V} {k : Nat} {d : Nat} {v : V}, (initFr args k).get d = some v → k ≤ d ∧ args[d - k]? = some v
  | [], k, d, v, h => by simp [initFr, T.get] at h
  | x :: l, k, d, v, h => by
    simp only [initFr] at h
    rcases T.get_put h with ⟨rfl, rfl⟩ | ⟨h1, h2⟩
    · exact ⟨Nat.le_refl _, by simp⟩
    · obtain ⟨q1, q2⟩ := initFr_ok (m := m) h2
      refine ⟨by omega, ?_⟩
      rw [show d - k = (d - (k + 1)) + 1 by omega, List.getElem?_cons_succ]
      exact q2
def resStep (tmps : Array Value) : ResultVar → Sem Value
  | .tmp t => pure (tmps.getD t undef)
  | .cell a t => do loadVar t (← asAddr (tmps.getD a undef))
theorem results_eq (fn : Func) (tmps : Array Value) : results fn tmps = (do
    let vs ← fn.results.mapM (resStep tmps)
    pure (if h : vs.size = 1 then vs[0] else .tuple vs)) := by
  unfold results
  congr 1
theorem res_ok {N : Nat} {m : Map} {fr : Fr} {a : Act} {aw : AW} {w : World} {base : Nat} (hR : R aw w m base) (hfr : FR m N fr a.tmps) : ∀ {rs : List ResultVar} {l : List ARes} {vs : List V}, cRes P rs = some l → resV fr aw l = some vs →
    ∃ ys : List Value, VRs m vs ys ∧ (rs.mapM (resStep a.tmps)).run P w = .ok ys w
  | [], l, vs, hc, h => by cases hc; cases h; exact ⟨[], rfl, by simp⟩
  | .tmp t :: rs, l, vs, hc, h => by
    simp only [cRes] at hc
    split at hc
    · rename_i r hr
      cases hc
      simp only [resV] at h
      split at h
      · rename_i v hv
        split at h
        · rename_i r' hr'
          cases h
          obtain ⟨ys, h1, h2⟩ := res_ok hR hfr hr hr'
          obtain ⟨v', q1, q2⟩ := hfr.2 _ _ hv
          refine ⟨v' :: ys, ⟨v', ys, rfl, q2, h1⟩, ?_⟩
          have : a.tmps.getD t undef = v' := by simp [q1]
          have hstep : (resStep a.tmps (.tmp t)).run P w = .ok v' w := by simp only [resStep, this, Sem.run_pure]
          simp only [List.mapM_cons, hstep, Sem.run_bind, Sem.run_pure, Result.andThen_ok, h2]
        · cases h
      · cases h
    · cases hc
  | .cell ad t :: rs, l, vs, hc, h => by
    simp only [cRes] at hc
    split at hc
    · rename_i n g r hn hg hr
      cases hc
      simp only [resV] at h
      split at h
      · rename_i b off hv
        split at h
        · rename_i v hload
          split at h
          · rename_i r' hr'
            cases h
            obtain ⟨ys, h1, h2⟩ := res_ok hR hfr hr hr'
            obtain ⟨p', q1, e, hm, q2⟩ := hfr.2 _ _ hv
            subst q2
            have hp : a.tmps.getD ad undef = .pointer (some ⟨e.c, e.s + off, none⟩) := by simp [q1]
            have hl : ∃ y, VR m v y ∧ (loadVar t ⟨e.c, e.s + off, none⟩).run P w = .ok y w := by
              cases g with
              | true =>
                simp only [] at hload
                split at hload
                · rename_i lv hlv
                  cases hload
                  obtain ⟨zs, k1, k2, k3⟩ := load_run (P := P) hR hm hlv
                  exact ⟨.agg zs.toArray, ⟨_, rfl, k2⟩, by simp [loadVar, run_isAgg hg, run_sizeOf hn, k3]⟩
                · cases hload
              | false =>
                simp only [] at hload
                split at hload
                · rename_i u hu
                  cases hload
                  obtain ⟨y, k1, k2⟩ := load1_run (P := P) hR hm hu
                  exact ⟨y, k1, by simp only [loadVar, Sem.run_bind, run_isAgg hg, Result.andThen_ok, Bool.false_eq_true, if_false, k2]⟩
                · cases hload
            obtain ⟨y, k1, k2⟩ := hl
            refine ⟨y :: ys, ⟨y, ys, rfl, k1, h1⟩, ?_⟩
            have hstep : (resStep a.tmps (.cell ad t)).run P w = .ok y w := by simp only [resStep, hp, asAddr, Sem.run_bind, Sem.run_pure, Result.andThen_ok, k2]
            simp only [List.mapM_cons, hstep, Sem.run_bind, Sem.run_pure, Result.andThen_ok, h2]
          · cases h
        · cases h
      · cases h
    · cases hc
theorem results_ok {N : Nat} {m : Map} {fr : Fr} {a : Act} {aw : AW} {w : World} {base : Nat} (hR : R aw w m base) (hfr : FR m N fr a.tmps) {fn : Func} {l : List ARes} {vs : List V} (hc : cRes P fn.results.toList = some l) (h : resV fr aw l = some vs) :
    ∃ v', (results fn a.tmps).run P w = .ok v' w ∧ VR m (resOne vs) v' := by
  obtain ⟨ys, h1, h2⟩ := res_ok (P := P) hR hfr hc h
  have hrun : (fn.results.mapM (resStep a.tmps)).run P w = .ok ys.toArray w := by
    rw [Array.mapM_eq_mapM_toList]
    simp only [Sem.run_map, h2, Result.andThen_ok]
  refine ⟨_, by rw [results_eq]; simp only [Sem.run_bind, hrun, Result.andThen_ok]; rfl, ?_⟩
  match vs, ys, h1 with
  | [], ys, h1 => cases h1; exact ⟨#[], rfl, rfl⟩
  | [v], ys, h1 =>
    obtain ⟨y, r, rfl, k1, k2⟩ := h1
    cases k2
    exact k1
  | v :: u :: vs, ys, h1 =>
    have hl := h1.length
    have hne : ¬ (ys.toArray.size = 1) := by simp at hl ⊢; omega
    rw [dif_neg hne]
    exact ⟨_, rfl, h1⟩
end
end Go.AE
