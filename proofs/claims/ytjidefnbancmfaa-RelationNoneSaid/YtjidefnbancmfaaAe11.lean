/- AE, part 11: lengths, the least and the greatest; cuts of strings, slices, arrays; aggregates built. -/
import Derived.Test.YtjidefnbancmfaaAe10
set_option linter.unusedVariables false
set_option linter.unusedSimpArgs false
namespace Go.AE

section
variable {P : Program} {o : Oper} {act : Act} {aw : AW} {w : World} {m : Map} {base N : Nat} {fr : Fr}

theorem run_builtin {b : Builtin} {args : Array Operand} {ts : Array TypeId} {vs : Array Value} {s : Sem Value} {v : Value} {w' : World} (ho : o.op = .call { callee := .builtin b, args := args, argTypes := ts })
    (hvs : args.map act.eval = vs) (hb : ∀ c, builtin b ts o.type c vs = (do pure (.value (← s)) : Sem Next)) (hs : s.run P w = .ok v w') : (execOp act.eval o).run P w = .ok (.value v) w' := by
  simp only [execOp, ho, resolve, invoke, Sem.run_bind, Sem.run_pure, Result.andThen_ok, hvs]
  rw [hb]
  simp [hs]
theorem args1 {ts : Array TypeId} {args : Array Operand} {t : TypeId} {x : Operand} (ht : ts.toList = [t]) (ha : args.toList = [x]) : ts = #[t] ∧ args = #[x] := by
  cases ts; cases args; simp_all
theorem len_ok (hR : R aw w m base) (hfr : FR m N fr act.tmps) {t : TypeId} {x : Operand} {a : Opd} {args : Array Operand} {ts : Array TypeId} {d : TypeDesc} (ho : o.op = .call { callee := .builtin .len, args := args, argTypes := ts })
    (ht : ts.toList = [t]) (ha : args.toList = [x]) (hx : cOpd x = some a) (hu : P.underlying t = some d) (hd : d = .string ∨ ∃ e, d = .slice e) {v : V} (h1 : a.ev fr = some v) {n : Nat}
    (h : ((∃ l, v = .str l ∧ n = l.length) ∧ d = .string) ∨ (((∃ b off cap, v = .slice b off n cap) ∨ (v = .nilslice ∧ n = 0)) ∧ ∃ e, d = .slice e)) : OpOK P o act aw aw w m base (.val (.int .i64 (Int.ofNat n))) := by
  obtain ⟨rfl, rfl⟩ := args1 ht ha
  have e1 := cOpd_ok hfr hx h1
  refine OpOK.quiet hR (v' := .int .i64 (Int.ofNat n)) ?_ rfl
  refine run_builtin ho (s := Builtin.len_ #[t] o.type #[act.eval x]) (by simp) (fun _ => rfl) ?_
  rcases h with ⟨⟨l, rfl, rfl⟩, rfl⟩ | ⟨⟨b, off, cap, rfl⟩ | ⟨rfl, rfl⟩, e, rfl⟩
  · obtain ⟨s, e2, rfl⟩ := e1
    simp [Builtin.len_, e2, run_underlying hu, goInt, strL_length]
  · obtain ⟨e', _, e2⟩ := e1
    cases cap with
    | known c => simp only [] at e2; simp [Builtin.len_, e2, run_underlying hu, goInt]
    | upTo z => obtain ⟨ad, cp, e3, _⟩ := e2; simp [Builtin.len_, e3, run_underlying hu, goInt]
  · cases hq : act.eval x <;> rw [hq] at e1 <;> cases e1
    simp [Builtin.len_, hq, run_underlying hu, goInt]
theorem lenArr_ok (hR : R aw w m base) {t e : TypeId} {x : Operand} {n : Nat} {args : Array Operand} {ts : Array TypeId} (ho : o.op = .call { callee := .builtin .len, args := args, argTypes := ts })
    (ht : ts.toList = [t]) (ha : args.toList = [x]) (hu : P.underlying t = some (.array n e)) : OpOK P o act aw aw w m base (.val (.int .i64 (Int.ofNat n))) := by
  obtain ⟨rfl, rfl⟩ := args1 ht ha
  refine OpOK.quiet hR (v' := .int .i64 (Int.ofNat n)) ?_ rfl
  refine run_builtin ho (s := Builtin.len_ #[t] o.type #[act.eval x]) (by simp) (fun _ => rfl) ?_
  simp [Builtin.len_, run_underlying hu, goInt]
theorem cap_ok (hR : R aw w m base) (hfr : FR m N fr act.tmps) {t e : TypeId} {x : Operand} {a : Opd} {args : Array Operand} {ts : Array TypeId} (ho : o.op = .call { callee := .builtin .cap, args := args, argTypes := ts })
    (ht : ts.toList = [t]) (ha : args.toList = [x]) (hx : cOpd x = some a) (hu : P.underlying t = some (.slice e)) {v : V} (h1 : a.ev fr = some v) {c : Nat}
    (h : (∃ b off n, v = .slice b off n (.known c)) ∨ (v = .nilslice ∧ c = 0)) : OpOK P o act aw aw w m base (.val (.int .i64 (Int.ofNat c))) := by
  obtain ⟨rfl, rfl⟩ := args1 ht ha
  have e1 := cOpd_ok hfr hx h1
  refine OpOK.quiet hR (v' := .int .i64 (Int.ofNat c)) ?_ rfl
  refine run_builtin ho (s := Builtin.cap_ #[t] o.type #[act.eval x]) (by simp) (fun _ => rfl) ?_
  rcases h with ⟨b, off, n, rfl⟩ | ⟨rfl, rfl⟩
  · obtain ⟨e', _, e2⟩ := e1
    simp only [] at e2
    simp [Builtin.cap_, e2, run_underlying hu, goInt]
  · cases hq : act.eval x <;> rw [hq] at e1 <;> cases e1
    simp [Builtin.cap_, hq, run_underlying hu, goInt]

/-! ### Cuts -/
/-- a bound of a cut, told and not. -/
def OV (m : Map) : Option Nat → Option Value → Prop
  | none, v => v = none
  | some n, v => ∃ k, v = some (.int k (n : Int))
theorem evOpt_ok (hfr : FR m N fr act.tmps) {x : Option Operand} {a : Option Opd} (hx : cOpt x = some a) {n : Option Nat} (h : evOpt fr a = some n) : OV m n (x.map act.eval) := by
  cases x with
  | none => cases hx; cases h; rfl
  | some x =>
    simp only [cOpt] at hx
    split at hx
    · rename_i a' ha
      cases hx
      simp only [evOpt] at h
      split at h
      · rename_i v hv
        split at h
        · rename_i k hk
          cases h
          obtain ⟨kk, e⟩ := idx_inv hk (cOpd_ok hfr ha hv)
          exact ⟨kk, by simp [e]⟩
        · cases h
      · cases h
    · cases hx
theorem run_bounds {isS : Bool} {len cap : Nat} {lo hi mx : Option Nat} {lo' hi' mx' : Option Value} (hlo : OV m lo lo') (hhi : OV m hi hi') (hmx : OV m mx mx')
    (h1 : mx.getD cap ≤ cap) (h2 : hi.getD len ≤ mx.getD cap ∨ (hi = none ∧ mx = none)) (h3 : lo.getD 0 ≤ hi.getD len) (h4 : mx.isSome = true → hi.isSome = true) :
    (Instr.sliceBounds isS len cap lo' hi' mx').run P w = .ok (lo.getD 0, hi.getD len, mx.getD cap) w := by
  have sb : ∀ (k : IntKind) (n y : Nat) (c : BoundsCode), n ≤ y → (Instr.sliceBound (.int k (n : Int)) y c).run P w = .ok n w := by
    intro k n y c h
    have := run_sliceBound (P := P) w k (n : Int) y c (by omega) (by omega)
    simpa using this
  cases mx with
  | none =>
    cases hmx
    cases hi with
    | none =>
      cases hhi
      cases lo with
      | none => cases hlo; simp [Instr.sliceBounds]
      | some l => obtain ⟨k, rfl⟩ := hlo; simp only [Option.getD_some, Option.getD_none] at h3; simp [Instr.sliceBounds, sb k l len _ h3]
    | some h =>
      obtain ⟨k, rfl⟩ := hhi
      have h2' : h ≤ cap := by simpa using h2
      cases lo with
      | none => cases hlo; simp [Instr.sliceBounds, sb k h cap _ h2']
      | some l => obtain ⟨k2, rfl⟩ := hlo; simp only [Option.getD_some] at h3; simp [Instr.sliceBounds, sb k h cap _ h2', sb k2 l h _ h3]
  | some q =>
    obtain ⟨k0, rfl⟩ := hmx
    cases hi with
    | none => simp at h4
    | some h =>
      obtain ⟨k, rfl⟩ := hhi
      simp only [Option.getD_some] at h1 h3
      have h2' : h ≤ q := by simpa using h2
      cases lo with
      | none => cases hlo; simp [Instr.sliceBounds, sb k0 q cap _ h1, sb k h q _ h2']
      | some l => obtain ⟨k2, rfl⟩ := hlo; simp only [Option.getD_some] at h3; simp [Instr.sliceBounds, sb k0 q cap _ h1, sb k h q _ h2', sb k2 l h _ h3]
end
end Go.AE
