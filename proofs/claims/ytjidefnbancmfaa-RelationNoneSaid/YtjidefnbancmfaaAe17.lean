/- AE, part 17: maps. -/
import Derived.Test.YtjidefnbancmfaaAe16
set_option linter.unusedVariables false
set_option linter.unusedSimpArgs false
namespace Go.AE

theorem ER.length {m : Map} : ∀ {es : List (V × V × Nat)} {l : List MapEntry}, ER m es l → l.length = es.length
  | [], l, h => by cases h; rfl
  | (k, v, n) :: es, l, h => by obtain ⟨e, r, rfl, _, _, _, h5⟩ := h; simp [ER.length h5]
theorem ER.get {m : Map} : ∀ {es : List (V × V × Nat)} {l : List MapEntry}, ER m es l → ∀ {i : Nat} {k v : V} {n : Nat}, es[i]? = some (k, v, n) → ∃ e, l[i]? = some e ∧ VR m k e.key ∧ VR m v e.val ∧ e.born = n
  | [], l, h, i, k, v, n, hx => by simp at hx
  | (k', v', n') :: es, l, h, i, k, v, n, hx => by
    obtain ⟨e, r, rfl, h2, h3, h4, h5⟩ := h
    cases i with
    | zero => simp at hx; obtain ⟨rfl, rfl, rfl⟩ := hx; exact ⟨e, by simp, h2, h3, h4⟩
    | succ i => simp at hx; simpa using ER.get h5 hx
theorem ER.set {m : Map} {k v : V} {n : Nat} {e : MapEntry} (hk : VR m k e.key) (hv : VR m v e.val) (hn : e.born = n) : ∀ {es : List (V × V × Nat)} {l : List MapEntry} {i : Nat}, ER m es l → ER m (es.set i (k, v, n)) (l.set i e)
  | [], l, i, h => by cases h; rfl
  | (k', v', n') :: es, l, i, h => by
    obtain ⟨e', r, rfl, h2, h3, h4, h5⟩ := h
    cases i with
    | zero => exact ⟨e, r, rfl, hk, hv, hn, h5⟩
    | succ i => exact ⟨e', r.set i e, rfl, h2, h3, h4, ER.set hk hv hn h5⟩
theorem ER.push {m : Map} {k v : V} {n : Nat} {e : MapEntry} (hk : VR m k e.key) (hv : VR m v e.val) (hn : e.born = n) : ∀ {es : List (V × V × Nat)} {l : List MapEntry}, ER m es l → ER m (es ++ [(k, v, n)]) (l ++ [e])
  | [], l, h => by cases h; exact ⟨e, [], rfl, hk, hv, hn, rfl⟩
  | (k', v', n') :: es, l, h => by
    obtain ⟨e', r, rfl, h2, h3, h4, h5⟩ := h
    exact ⟨e', r ++ [e], rfl, h2, h3, h4, ER.push hk hv hn h5⟩
theorem ER.erase {m : Map} : ∀ {es : List (V × V × Nat)} {l : List MapEntry} {i : Nat}, ER m es l → ER m (es.eraseIdx i) (l.eraseIdx i)
  | [], l, i, h => by cases h; rfl
  | (k', v', n') :: es, l, i, h => by
    obtain ⟨e', r, rfl, h2, h3, h4, h5⟩ := h
    cases i with
    | zero => exact h5
    | succ i => exact ⟨e', r.eraseIdx i, rfl, h2, h3, h4, ER.erase h5⟩

section
variable {P : Program} {o : Oper} {act : Act} {aw aw' : AW} {w : World} {m : Map} {base N : Nat} {fr : Fr}

theorem eqScalar_true {s : Sc} {a b : V} {x y : Value} (hx : VR m a x) (hy : VR m b y) (h : eqScalar s a b = some true) : x = y ∧ ∀ n, Instr.sameBits n x x = true := by
  unfold eqScalar at h
  split at h
  · split at h
    · rename_i hk
      simp only [Option.some.injEq, beq_iff_eq] at h
      subst hk h
      cases hx; cases hy
      exact ⟨rfl, fun n => by cases n <;> simp [Instr.sameBits]⟩
    · cases h
  · simp only [Option.some.injEq, eqL_iff] at h
    subst h
    obtain ⟨s, rfl, h1⟩ := hx
    obtain ⟨s', rfl, h2⟩ := hy
    have := strL_inj (h1.trans h2.symm)
    subst this
    exact ⟨rfl, fun n => by cases n <;> simp [Instr.sameBits, beq_toListBytes]⟩
  · simp only [Option.some.injEq, beq_iff_eq] at h
    subst h
    cases hx; cases hy
    exact ⟨rfl, fun n => by cases n <;> simp [Instr.sameBits]⟩
  · cases h
theorem eqCells_true : ∀ {l : List Sc} {a b : List V} {x y : List Value}, VRs m a x → VRs m b y → eqCells l a b = some true → x = y ∧ ∀ n, (x.zip x).all (fun p => Instr.sameBits n p.1 p.2) = true
  | l, a, b, x, y, ha, hb, h => by
    unfold eqCells at h
    split at h
    · cases ha; cases hb; exact ⟨rfl, fun n => rfl⟩
    · split at h
      · rename_i he
        obtain ⟨u, us, rfl, h1, h2⟩ := ha
        obtain ⟨v, vs, rfl, h3, h4⟩ := hb
        obtain ⟨q1, q2⟩ := eqScalar_true h1 h3 he
        obtain ⟨q3, q4⟩ := eqCells_true h2 h4 h
        subst q1 q3
        exact ⟨rfl, fun n => by simp only [List.zip_cons_cons, List.all_cons, q2 n, q4 n, Bool.and_self]⟩
      · cases h
      · cases h
    · cases h
theorem eqKey_true {ty : KeyTy} {a b : V} {x y : Value} (hx : VR m a x) (hy : VR m b y) (h : eqKey ty a b = some true) : x = y ∧ Instr.sameBits 10000 x x = true := by
  unfold eqKey at h
  split at h
  · obtain ⟨h1, h2⟩ := eqScalar_true hx hy h; exact ⟨h1, h2 _⟩
  · obtain ⟨u, rfl, h1⟩ := hx
    obtain ⟨v, rfl, h2⟩ := hy
    obtain ⟨q1, q2⟩ := eqCells_true h1 h2 h
    have : u = v := Array.ext' q1
    subst this
    refine ⟨rfl, ?_⟩
    show (u.size == u.size && (u.toList.zip u.toList).all fun (p : Value × Value) => Instr.sameBits 9999 p.1 p.2) = true
    simp only [beq_self_eq_true, Bool.true_and]
    exact q2 9999
  · cases h

/-! the key is one -/
theorem checkScalar {t : TypeId} {s : Sc} (ht : scTy P t = some s) (n : Nat) (e : Bool) (x : Value) : (Instr.checkKey e (n + 1) t x).run P w = .ok () w := by
  unfold scTy at ht
  split at ht
  · rename_i hu; simp only [Instr.checkKey, Sem.run_bind, run_underlying hu, Result.andThen_ok]; cases x <;> rfl
  · rename_i hu; simp only [Instr.checkKey, Sem.run_bind, run_underlying hu, Result.andThen_ok]; cases x <;> rfl
  · rename_i hu; simp only [Instr.checkKey, Sem.run_bind, run_underlying hu, Result.andThen_ok]; cases x <;> rfl
  · cases ht
theorem scFields_length : ∀ {fs : List Field} {n : Nat} {l : List Sc}, scFields P fs n = some l → l.length = fs.length
  | [], n, l, h => by cases h; rfl
  | f :: fs, n, l, h => by
    simp only [scFields] at h
    split at h
    · rename_i s q hnm hoff hs hq
      cases h
      simp [scFields_length hq]
    · cases h
theorem checkStruct (d : Nat) (e : Bool) {t : TypeId} {fields : Array Field} {cs : Array Value} {l : List Sc} (hu : P.underlying t = some (.struct fields)) (hf : scFields P fields.toList 0 = some l) (hn : fields.toList.length ≤ cs.size) :
    (Instr.checkKey e (d + 2) t (.agg cs)).run P w = .ok () w := by
  have hu' := run_underlying hu w
  rw [Instr.checkKey]
  simp only [Sem.run_bind, hu', Result.andThen_ok]
  rw [← Array.forIn_toList]
  generalize fields.toList = fs at hf hn ⊢
  have hn' : 0 + fs.length ≤ cs.size := by omega
  clear hn hu hu'
  revert hf hn'
  generalize 0 = n
  intro hf hn'
  induction fs generalizing n l with
  | nil => simp
  | cons f fs ih =>
    simp only [scFields] at hf
    split at hf
    · rename_i s q hnm hoff hs hq
      cases hf
      have hname : f.name ≠ "_" := by simpa using hnm
      have hoff' : f.offset = n := Nat.eq_of_beq_eq_true hoff
      simp only [List.length_cons] at hn'
      have hg := scTy_agg hs
      have p1 : (part f.type cs f.offset).run P w = .ok (cs[n]'(by omega)) w := by simp [part, run_isAgg hg, hoff', show n < cs.size by omega]
      simp only [List.forIn_cons, if_pos hname, Sem.run_bind, p1, Result.andThen_ok, checkScalar hs, Sem.run_pure]
      exact ih (n + 1) hq (by omega)
    · cases hf
theorem checkKey_run {kt : TypeId} {ty : KeyTy} (ht : keyTy P kt = some ty) {k : V} {K : Value} (hk : VR m k K) (hok : keyOk ty k = true) (e : Bool) : (Instr.checkKey e 10000 kt K).run P w = .ok () w := by
  unfold keyTy at ht
  split at ht
  · rename_i kk hu; exact checkScalar (s := .int) (by simp [scTy, hu]) 9999 e K
  · rename_i hu; exact checkScalar (s := .str) (by simp [scTy, hu]) 9999 e K
  · rename_i hu; exact checkScalar (s := .bool) (by simp [scTy, hu]) 9999 e K
  · rename_i fs hu
    split at ht
    · rename_i l hst hf
      cases ht
      cases k <;> simp only [keyOk] at hok
      case agg x =>
        obtain ⟨cs, rfl, hcs⟩ := hk
        have hlen := hcs.length
        simp only [Array.length_toList] at hlen
        have hl2 : x.length = l.length := Nat.eq_of_beq_eq_true hok
        exact checkStruct 9998 e hu hf (by have := scFields_length hf; omega)
      all_goals cases hok
    · cases ht
  · cases ht
end
end Go.AE
