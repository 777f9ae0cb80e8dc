/- AE, part 10: structs that are equal; interfaces, functions, tuples, lengths, the least and the greatest; cuts of strings, slices, arrays; aggregates built. -/
import Derived.Test.YtjidefnbancmfaaAe9
import Derived.Laws.StructEq
set_option linter.unusedVariables false
set_option linter.unusedSimpArgs false
namespace Go.AE

section
variable {P : Program} {o : Oper} {act : Act} {aw : AW} {w : World} {m : Map} {base N : Nat} {fr : Fr}

theorem scTy_agg {t : TypeId} {s : Sc} (h : scTy P t = some s) : aggOf P t = some false := by
  unfold scTy at h
  unfold aggOf
  split at h
  · rename_i hu; rw [hu]
  · rename_i hu; rw [hu]
  · rename_i hu; rw [hu]
  · cases h
theorem eqScalar_run (d : Nat) {t : TypeId} {s : Sc} (ht : scTy P t = some s) {a b : V} {x y : Value} (hx : VR m a x) (hy : VR m b y) {r : Bool} (h : eqScalar s a b = some r) :
    (Op.equalIn (d + 1) t x y).run P w = .ok r w := by
  unfold eqScalar at h
  unfold scTy at ht
  split at h
  · split at h
    · rename_i k a k' b hk
      subst hk
      cases h; cases hx; cases hy
      split at ht
      · rename_i hu; exact run_equalIn_int w d t _ _ _ _ hu
      all_goals cases ht
    · cases h
  · cases h
    obtain ⟨s, rfl, rfl⟩ := hx
    obtain ⟨s', rfl, rfl⟩ := hy
    split at ht
    · cases ht
    · rename_i hu; rw [run_equalIn_string w d t _ _ hu, eq_bytes]
    all_goals cases ht
  · cases h; cases hx; cases hy
    split at ht
    · cases ht
    · cases ht
    · rename_i hu; exact run_equalIn_bool w d t _ _ hu
    · cases ht
  · cases h
theorem eqCells_run (d : Nat) {xs ys : Array Value} : ∀ {fs : List Field} {n : Nat} {l : List Sc} {a b : List V} {r : Bool}, scFields P fs n = some l → VRs m a (xs.toList.drop n) → VRs m b (ys.toList.drop n) →
    eqCells l a b = some r → (Op.eqFields (d + 1) xs ys fs).run P w = .ok r w
  | [], n, l, a, b, r, hf, ha, hb, h => by
    cases hf
    unfold eqCells at h
    split at h
    · cases h; rfl
    · rename_i h1; cases h1
    · cases h
  | f :: fs, n, l, a, b, r, hf, ha, hb, h => by
    simp only [scFields] at hf
    split at hf
    · rename_i s q hnm hoff hs hq
      cases hf
      have hname : f.name ≠ "_" := by simpa using hnm
      have hoff' : f.offset = n := Nat.eq_of_beq_eq_true hoff
      cases a with
      | nil => simp [eqCells] at h
      | cons va as =>
        cases b with
        | nil => simp [eqCells] at h
        | cons vb bs =>
          obtain ⟨x, xr, hx1, hx2, hx3⟩ := ha
          obtain ⟨y, yr, hy1, hy2, hy3⟩ := hb
          have gx : xs[n]? = some x := by
            have := congrArg (·[0]?) hx1
            simpa using this
          have gy : ys[n]? = some y := by
            have := congrArg (·[0]?) hy1
            simpa using this
          have dx : xs.toList.drop (n + 1) = xr := by
            have := congrArg (List.drop 1) hx1
            simpa [List.drop_drop, Nat.add_comm] using this
          have dy : ys.toList.drop (n + 1) = yr := by
            have := congrArg (List.drop 1) hy1
            simpa [List.drop_drop, Nat.add_comm] using this
          have hg := scTy_agg hs
          have p1 : (part f.type xs f.offset).run P w = .ok x w := by simp [part, run_isAgg hg, hoff', gx]
          have p2 : (part f.type ys f.offset).run P w = .ok y w := by simp [part, run_isAgg hg, hoff', gy]
          simp only [Op.eqFields, if_pos hname, Sem.run_bind, p1, p2, Result.andThen_ok]
          simp only [eqCells] at h
          split at h
          · rename_i he
            rw [eqScalar_run d hs hx2 hy2 he]
            simp only [Result.andThen_ok, Bool.not_true, Bool.false_eq_true, if_false]
            exact eqCells_run d hq (by rw [dx]; exact hx3) (by rw [dy]; exact hy3) h
          · rename_i he
            cases h
            rw [eqScalar_run d hs hx2 hy2 he]
            simp
          · cases h
    · cases hf
theorem eqAgg_equal (d : Nat) {t : TypeId} {fs : Array Field} {l : List Sc} (hu : P.underlying t = some (.struct fs)) (hst : P.stoodInHeld t = false) (hf : scFields P fs.toList 0 = some l)
    {xs ys : Array Value} {a b : List V} (ha : VRs m a xs.toList) (hb : VRs m b ys.toList) {r : Bool} (h : eqCells l a b = some r) : (Op.equalIn (d + 2) t (.agg xs) (.agg ys)).run P w = .ok r w := by
  have hfo : P.fieldsOf t = fs := by simp [Program.fieldsOf, hu]
  rw [run_equalIn_struct w (d + 1) t xs ys (by rw [hfo]; exact hu) hst, hfo]
  exact eqCells_run d hf (by simpa using ha) (by simpa using hb) h
theorem eqAgg_ok (hR : R aw w m base) (hfr : FR m N fr act.tmps) {neg : Bool} {t yt : TypeId} {x y : Operand} {a b : Opd} (ho : o.op = .binOp (if neg then .neq else .eql) t x y yt) (hx : cOpd x = some a) (hy : cOpd y = some b)
    {fs : Array Field} {l : List Sc} (hu : P.underlying t = some (.struct fs)) (hst : P.stoodInHeld t = false) (hg : P.eqGuardType P.depth t = false) (hf : scFields P fs.toList 0 = some l)
    {va vb : List V} {r : Bool} (h1 : a.ev fr = some (.agg va)) (h2 : b.ev fr = some (.agg vb)) (h : eqCells l va vb = some r) : OpOK P o act aw aw w m base (.val (.bool (neg != r))) := by
  obtain ⟨xs, e1, e3⟩ := cOpd_ok hfr hx h1
  obtain ⟨ys, e2, e4⟩ := cOpd_ok hfr hy h2
  have e5 : (Op.equalIn 10000 t (.agg xs) (.agg ys)).run P w = .ok r w := eqAgg_equal (P := P) (w := w) 9998 hu hst hf e3 e4 h
  refine OpOK.quiet hR (v' := .bool (neg != r)) ?_ rfl
  have e6 := run_eqGuard_agg w (if neg then .neq else .eql) t x y xs ys hg
  cases neg with
  | false =>
    simp only [execOp, ho, Sem.run_bind, e1, e2]
    simp only [Bool.false_eq_true, if_false] at e6 ⊢
    rw [e6]
    simp only [Result.andThen_ok, run_eql_struct, e5]
    cases r <;> rfl
  | true =>
    simp only [execOp, ho, Sem.run_bind, e1, e2]
    simp only [if_true] at e6 ⊢
    rw [e6]
    simp only [Result.andThen_ok, run_neq_struct, e5]
    cases r <;> rfl

theorem mkIface_ok (hR : R aw w m base) (hfr : FR m N fr act.tmps) {t : TypeId} {x : Operand} {a : Opd} {d : TypeDesc} (ho : o.op = .makeInterface t x) (hx : cOpd x = some a) (hu : P.underlying t = some d) (hd : ∀ ms, d ≠ .interface ms)
    {v : V} (h1 : a.ev fr = some v) : OpOK P o act aw aw w m base (.val (.iface t v)) := by
  refine OpOK.quiet hR (v' := .iface t (act.eval x)) ?_ ⟨_, rfl, cOpd_ok hfr hx h1⟩
  simp only [execOp, ho, Instr.makeInterface, Sem.run_bind, run_underlying hu, Result.andThen_ok]
  cases d <;> first | rfl | exact absurd rfl (hd _)
theorem zero_ok {t : TypeId} {z : V} (hz : zeroOf P t = some z) : ∃ z', (zeroValue t).run P w = .ok z' w ∧ VR m z z' := by
  unfold zeroOf at hz
  split at hz
  · rename_i i hi
    split at hz
    · rename_i z' hz'
      exact ⟨z', by simp [zeroValue, typeInfo, hi, hz'], cV_ok hz⟩
    · cases hz
  · cases hz
theorem typeAssert_ok (hR : R aw w m base) (hfr : FR m N fr act.tmps) {t xt : TypeId} {x : Operand} {a : Opd} {d : TypeDesc} {z : V} {ok : Bool} (ho : o.op = .typeAssert x xt t ok) (hx : cOpd x = some a) (hu : P.underlying t = some d) (hd : ∀ ms, d ≠ .interface ms)
    (hz : zeroOf P t = some z) {v r : V} (h1 : a.ev fr = some v)
    (h : (∃ u, v = .iface t u ∧ r = (match (generalizing := false) ok with | true => .tuple [u, .bool true] | false => u)) ∨ (ok = true ∧ r = .tuple [z, .bool false] ∧ (v = .niliface ∨ ∃ t' u, v = .iface t' u ∧ t' ≠ t))) :
    OpOK P o act aw aw w m base (.val r) := by
  have e1 := cOpd_ok hfr hx h1
  obtain ⟨z', hz1, hz2⟩ := zero_ok (P := P) (w := w) (m := m) hz
  rcases h with ⟨u, rfl, rfl⟩ | ⟨rfl, rfl, hv⟩
  · obtain ⟨y, e2, e3⟩ := e1
    cases ok with
    | true =>
      refine OpOK.quiet hR (v' := .tuple #[y, .bool true]) ?_ ⟨_, rfl, y, [.bool true], rfl, e3, _, [], rfl, rfl, rfl⟩
      simp only [execOp, ho, Instr.typeAssert, Sem.run_bind, run_underlying hu, Result.andThen_ok, e2]
      cases d <;> first | (simp; done) | exact absurd rfl (hd _)
    | false =>
      refine OpOK.quiet hR (v' := y) ?_ e3
      simp only [execOp, ho, Instr.typeAssert, Sem.run_bind, run_underlying hu, Result.andThen_ok, e2]
      cases d <;> first | (simp; done) | exact absurd rfl (hd _)
  · refine OpOK.quiet hR (v' := .tuple #[z', .bool false]) ?_ ⟨_, rfl, z', [.bool false], rfl, hz2, _, [], rfl, rfl, rfl⟩
    rcases hv with rfl | ⟨t', u, rfl, hne⟩
    · cases hq : act.eval x <;> rw [hq] at e1 <;> cases e1
      simp only [execOp, ho, Instr.typeAssert, Sem.run_bind, run_underlying hu, Result.andThen_ok, hq]
      cases d <;> first | (simp [hz1]; done) | exact absurd rfl (hd _)
    · obtain ⟨y, e2, e3⟩ := e1
      simp only [execOp, ho, Instr.typeAssert, Sem.run_bind, run_underlying hu, Result.andThen_ok, e2]
      cases d <;> first | (simp [hz1, hne]; done) | exact absurd rfl (hd _)
theorem mkFunc_ok (hR : R aw w m base) (hfr : FR m N fr act.tmps) {fn : Fn} {first cap : Array Operand} {f c : List Opd} (ho : o.op = .makeFunc fn first cap) (hf : cOpds first.toList = some f) (hc : cOpds cap.toList = some c)
    {vf vc : List V} (h1 : evs fr f = some vf) (h2 : evs fr c = some vc) : OpOK P o act aw aw w m base (.val (.func fn vf vc)) := by
  refine OpOK.quiet hR (v' := .func fn (first.map act.eval) (cap.map act.eval)) ?_ ⟨_, _, rfl, by simpa using cOpds_ok hfr hf h1, by simpa using cOpds_ok hfr hc h2⟩
  simp [execOp, ho, Instr.makeFunc]
theorem extract_ok (hR : R aw w m base) (hfr : FR m N fr act.tmps) {i : Nat} {x : Operand} {a : Opd} (ho : o.op = .extract x i) (hx : cOpd x = some a) {l : List V} {v : V} (h1 : a.ev fr = some (.tuple l)) (h2 : l[i]? = some v) :
    OpOK P o act aw aw w m base (.val v) := by
  obtain ⟨vs, e1, e2⟩ := cOpd_ok hfr hx h1
  obtain ⟨y, q1, q2⟩ := e2.get h2
  refine OpOK.quiet hR (v' := y) ?_ q2
  have : vs[i]? = some y := by simpa using q1
  simp [execOp, ho, e1, Instr.extract, this]
end
end Go.AE
