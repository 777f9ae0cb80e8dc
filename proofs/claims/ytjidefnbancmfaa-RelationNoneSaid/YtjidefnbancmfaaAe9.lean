/- AE, part 9: parts of aggregates; equality; interfaces, functions, lengths, cuts. -/
import Derived.Test.YtjidefnbancmfaaAe8
set_option linter.unusedVariables false
set_option linter.unusedSimpArgs false
namespace Go.AE

theorem takeN_eq : ∀ {n : Nat} {l r : List V}, takeN n l = some r → r = l.take n ∧ n ≤ l.length
  | 0, l, r, h => by cases h; simp
  | n + 1, [], r, h => by cases h
  | n + 1, v :: l, r, h => by
    simp only [takeN] at h
    split at h
    · rename_i q hq
      cases h
      obtain ⟨h1, h2⟩ := takeN_eq hq
      exact ⟨by simp [h1], by simp; omega⟩
    · cases h
theorem VRs.drop {m : Map} : ∀ {n : Nat} {l : List V} {l' : List Value}, VRs m l l' → VRs m (l.drop n) (l'.drop n)
  | 0, l, l', h => h
  | n + 1, [], l', h => by cases h; exact rfl
  | n + 1, x :: xs, l', h => by obtain ⟨y, ys, rfl, _, h3⟩ := h; exact VRs.drop (n := n) h3
theorem VRs.take {m : Map} : ∀ {n : Nat} {l : List V} {l' : List Value}, VRs m l l' → VRs m (l.take n) (l'.take n)
  | 0, l, l', h => by simp; exact rfl
  | n + 1, [], l', h => by cases h; exact rfl
  | n + 1, x :: xs, l', h => by obtain ⟨y, ys, rfl, h2, h3⟩ := h; exact ⟨y, ys.take n, rfl, h2, VRs.take h3⟩

section
variable {P : Program} {o : Oper} {act : Act} {aw : AW} {w : World} {m : Map} {base N : Nat} {fr : Fr}

theorem run_isAgg {t : TypeId} {g : Bool} (h : aggOf P t = some g) : (isAgg t).run P w = .ok g w := by
  unfold aggOf at h
  split at h
  · rename_i fs hu; cases h; simp [isAgg, run_underlying hu]
  · rename_i n e hu; cases h; simp [isAgg, run_underlying hu]
  · rename_i d h1 h2 hu
    cases h
    simp only [isAgg, Sem.run_bind, run_underlying hu, Result.andThen_ok]
    cases d <;> first | rfl | (exact absurd hu (h1 _)) | (exact absurd hu (h2 _ _))
  · cases h
theorem run_sizeOf {t : TypeId} {n : Nat} (h : sizeOf? P t = some n) : (sizeOf t).run P w = .ok n w := by
  obtain ⟨i, h1, h2⟩ := size_inv h
  simp [sizeOf, typeInfo, h1, h2]
theorem part_ok {t : TypeId} {l : List V} {cs : Array Value} {off n : Nat} {g : Bool} {v : V} (hl : VRs m l cs.toList) (hs : sizeOf? P t = some n) (hg : aggOf P t = some g) (h : partV l off n g = some v) :
    ∃ v', (part t cs off).run P w = .ok v' w ∧ VR m v v' := by
  unfold partV at h
  cases g with
  | true =>
    simp only [] at h
    split at h
    · rename_i r hr
      cases h
      obtain ⟨h1, h2⟩ := takeN_eq hr
      refine ⟨.agg (cs.extract off (off + n)), ?_, _, rfl, ?_⟩
      · simp [part, run_isAgg hg, run_sizeOf hs]
      · rw [h1]
        have := (hl.drop (n := off)).take (n := n)
        simpa [Array.toList_extract, List.extract_eq_take_drop] using this
    · cases h
  | false =>
    simp only [List.head?_drop] at h
    obtain ⟨y, hy1, hy2⟩ := hl.get h
    refine ⟨y, ?_, hy2⟩
    have : cs[off]? = some y := by simpa using hy1
    simp [part, run_isAgg hg, this]

theorem indexAgg_ok (hR : R aw w m base) (hfr : FR m N fr act.tmps) {t el : TypeId} {x i : Operand} {a c : Opd} {len n : Nat} {g : Bool} (ho : o.op = .index t x i) (hx : cOpd x = some a) (hi : cOpd i = some c)
    (hu : P.underlying t = some (.array len el)) (hs : sizeOf? P el = some n) (hg : aggOf P el = some g) {l : List V} {j : Nat} {iv v : V} (h1 : a.ev fr = some (.agg l)) (h2 : c.ev fr = some iv) (h3 : idx iv = some j) (hj : j < len)
    (h4 : partV l (j * n) n g = some v) : OpOK P o act aw aw w m base (.val v) := by
  obtain ⟨cs, e1, e3⟩ := cOpd_ok hfr hx h1
  obtain ⟨k, e2⟩ := idx_inv h3 (cOpd_ok hfr hi h2)
  obtain ⟨v', q1, q2⟩ := part_ok (P := P) (w := w) e3 hs hg h4
  refine OpOK.quiet hR ?_ q2
  simp [execOp, ho, e1, e2, Instr.index, run_underlying hu, asIntOf, hj, run_sizeOf hs, q1]
theorem field_ok (hR : R aw w m base) (hfr : FR m N fr act.tmps) {t : TypeId} {x : Operand} {f : Nat} {a : Opd} {fs : Array Field} {fd : Field} {n : Nat} {g : Bool} (ho : o.op = .field t x f) (hx : cOpd x = some a)
    (hu : P.underlying t = some (.struct fs)) (hf : fs[f]? = some fd) (hs : sizeOf? P fd.type = some n) (hg : aggOf P fd.type = some g) {l : List V} {v : V} (h1 : a.ev fr = some (.agg l)) (h4 : partV l fd.offset n g = some v) :
    OpOK P o act aw aw w m base (.val v) := by
  obtain ⟨cs, e1, e3⟩ := cOpd_ok hfr hx h1
  obtain ⟨v', q1, q2⟩ := part_ok (P := P) (w := w) e3 hs hg h4
  refine OpOK.quiet hR ?_ q2
  simp [execOp, ho, e1, Instr.field, run_underlying hu, hf, asAgg, q1]

/-! ### Equality -/
def eqTyOf (P : Program) (t : TypeId) : EqTy → Prop
  | .bool => P.underlying t = some .bool
  | .ptr => ∃ e n, P.underlying t = some (.pointer e) ∧ sizeOf? P e = some (n + 1)
  | .slice => ∃ e, P.underlying t = some (.slice e)
  | .map => ∃ k e, P.underlying t = some (.map k e)
  | .func => ∃ a b c, P.underlying t = some (.func a b c)
  | .iface => ∃ ms, P.underlying t = some (.interface ms)
theorem eqV_run (d : Nat) {t : TypeId} {ty : EqTy} (ht : eqTyOf P t ty) {a b : V} {x y : Value} (hx : VR m a x) (hy : VR m b y) {r : Bool} (h : eqV ty a b = some r) :
    (Op.equalIn (d + 1) t x y).run P w = .ok r w := by
  unfold eqV at h
  split at h
  case h_1 => cases h; cases hx; cases hy; simp [Op.equalIn, run_underlying ht]
  case h_2 => cases h; cases hx; cases hy; obtain ⟨e, n, hu, hs⟩ := ht; simp [Op.equalIn, run_underlying hu]
  case h_3 => cases h; cases hx; obtain ⟨e', q1, rfl⟩ := hy; obtain ⟨e, n, hu, hs⟩ := ht; simp [Op.equalIn, run_underlying hu]
  case h_4 => cases h; cases hy; obtain ⟨e', q1, rfl⟩ := hx; obtain ⟨e, n, hu, hs⟩ := ht; simp [Op.equalIn, run_underlying hu]
  case h_5 =>
    split at h
    · rename_i b o b' o' hb
      subst hb
      cases h
      obtain ⟨e1, q1, rfl⟩ := hx
      obtain ⟨e2, q2, rfl⟩ := hy
      rw [q1] at q2; cases q2
      obtain ⟨e, n, hu, hs⟩ := ht
      have hbeq : ((⟨e1.c, e1.s + o, none⟩ : Addr) == ⟨e1.c, e1.s + o', none⟩) = Nat.beq o o' := by
        rw [Bool.eq_iff_iff, beq_iff_eq, Nat.beq_eq]
        simp
      simp [Op.equalIn, run_underlying hu, run_sizeOf hs, sameAddr, hbeq]
    · cases h
  case h_6 => cases h; cases hx; cases hy; obtain ⟨e, hu⟩ := ht; simp [Op.equalIn, run_underlying hu]
  case h_7 =>
    cases h; cases hx; obtain ⟨e, hu⟩ := ht
    obtain ⟨e', q1, q2⟩ := hy
    rename_i b off len cap
    cases cap with
    | known c => simp only [] at q2; subst q2; simp [Op.equalIn, run_underlying hu]
    | upTo z => obtain ⟨ad, cp, rfl, _⟩ := q2; simp [Op.equalIn, run_underlying hu]
  case h_8 =>
    cases h; cases hy; obtain ⟨e, hu⟩ := ht
    obtain ⟨e', q1, q2⟩ := hx
    rename_i b off len cap
    cases cap with
    | known c => simp only [] at q2; subst q2; simp [Op.equalIn, run_underlying hu]
    | upTo z => obtain ⟨ad, cp, rfl, _⟩ := q2; simp [Op.equalIn, run_underlying hu]
  case h_9 => cases h; cases hx; cases hy; obtain ⟨k, e, hu⟩ := ht; simp [Op.equalIn, run_underlying hu]
  case h_10 => cases h; cases hx; obtain ⟨e', q1, rfl⟩ := hy; obtain ⟨k, e, hu⟩ := ht; simp [Op.equalIn, run_underlying hu]
  case h_11 => cases h; cases hy; obtain ⟨e', q1, rfl⟩ := hx; obtain ⟨k, e, hu⟩ := ht; simp [Op.equalIn, run_underlying hu]
  case h_12 => cases h; cases hx; cases hy; obtain ⟨q, k, e, hu⟩ := ht; simp [Op.equalIn, run_underlying hu]
  case h_13 => cases h; cases hx; obtain ⟨p1, p2, rfl, _⟩ := hy; obtain ⟨q, k, e, hu⟩ := ht; simp [Op.equalIn, run_underlying hu]
  case h_14 => cases h; cases hy; obtain ⟨p1, p2, rfl, _⟩ := hx; obtain ⟨q, k, e, hu⟩ := ht; simp [Op.equalIn, run_underlying hu]
  case h_15 => cases h; cases hx; cases hy; obtain ⟨e, hu⟩ := ht; simp [Op.equalIn, run_underlying hu]
  case h_16 => cases h; cases hx; obtain ⟨p1, rfl, _⟩ := hy; obtain ⟨e, hu⟩ := ht; simp [Op.equalIn, run_underlying hu]
  case h_17 => cases h; cases hy; obtain ⟨p1, rfl, _⟩ := hx; obtain ⟨e, hu⟩ := ht; simp [Op.equalIn, run_underlying hu]
  case h_18 => cases h
theorem isNil_const {x : Operand} (h : isNilIface x = true) : x = .const .nilIface := by
  unfold isNilIface at h
  split at h
  · rfl
  · cases h
theorem eqvGuard {op : BinOp} {t : TypeId} {ty : EqTy} {ox oy : Operand} {a b : V} {x y : Value} (hx : VR m a x) (hy : VR m b y) {r : Bool} (h : eqV ty a b = some r)
    (hn : ty = .iface → isNilIface ox = true ∨ isNilIface oy = true) : eqGuard op t ox oy x y = pure () := by
  unfold eqV at h
  split at h
  case h_1 => cases hx; exact eqGuard_at_bool ..
  case h_2 => cases hx; exact eqGuard_at_pointer ..
  case h_3 => cases hx; exact eqGuard_at_pointer ..
  case h_4 => obtain ⟨e', q1, rfl⟩ := hx; exact eqGuard_at_pointer ..
  case h_5 => obtain ⟨e', q1, rfl⟩ := hx; exact eqGuard_at_pointer ..
  case h_6 => cases hx; exact eqGuard_at_slice ..
  case h_7 => cases hx; exact eqGuard_at_slice ..
  case h_8 =>
    obtain ⟨e', q1, q2⟩ := hx
    rename_i b off len cap
    cases cap with
    | known c => simp only [] at q2; subst q2; exact eqGuard_at_slice ..
    | upTo z => obtain ⟨ad, cp, rfl, _⟩ := q2; exact eqGuard_at_slice ..
  case h_9 => cases hx; exact eqGuard_at_map ..
  case h_10 => cases hx; exact eqGuard_at_map ..
  case h_11 => obtain ⟨e', q1, rfl⟩ := hx; exact eqGuard_at_map ..
  case h_12 => cases hx; exact eqGuard_at_nilFunc ..
  case h_13 => cases hx; exact eqGuard_at_nilFunc ..
  case h_14 => obtain ⟨p1, p2, rfl, _⟩ := hx; exact eqGuard_at_func ..
  case h_15 =>
    cases hx; cases hy
    rcases hn rfl with h1 | h1
    · rw [isNil_const h1]; exact eqGuard_nil_constL ..
    · rw [isNil_const h1]; exact eqGuard_nil_constR ..
  case h_16 => cases hx; obtain ⟨p1, rfl, _⟩ := hy; exact eqGuard_nil_iface ..
  case h_17 => obtain ⟨p1, rfl, _⟩ := hx; exact eqGuard_at_iface ..
  case h_18 => cases h
theorem binOp_equal {t : TypeId} {ty : EqTy} {a b : V} {x y : Value} (hx : VR m a x) (hy : VR m b y) {r : Bool} (h : eqV ty a b = some r) (neg : Bool) :
    binOp (if neg then .neq else .eql) t x y = (do pure (.bool (neg != (← Op.equal t x y))) : Sem Value) := by
  unfold eqV at h
  have f1 : ∀ z : Bool, (false != z) = z := by decide
  have f2 : ∀ z : Bool, (true != z) = !z := by decide
  split at h
  case h_1 => cases hx; cases hy; cases neg <;> simp [binOp, f1, f2]
  case h_2 => cases hx; cases hy; cases neg <;> simp [binOp, f1, f2]
  case h_3 => cases hx; obtain ⟨e', q1, rfl⟩ := hy; cases neg <;> simp [binOp, f1, f2]
  case h_4 => cases hy; obtain ⟨e', q1, rfl⟩ := hx; cases neg <;> simp [binOp, f1, f2]
  case h_5 => obtain ⟨e', q1, rfl⟩ := hx; obtain ⟨e', q1, rfl⟩ := hy; cases neg <;> simp [binOp, f1, f2]
  case h_6 => cases hx; cases hy; cases neg <;> simp [binOp, f1, f2]
  case h_7 =>
    cases hx; obtain ⟨e', q1, q2⟩ := hy
    rename_i b off len cap
    cases cap with
    | known c => simp only [] at q2; subst q2; cases neg <;> simp [binOp, f1, f2]
    | upTo z => obtain ⟨ad, cp, rfl, _⟩ := q2; cases neg <;> simp [binOp, f1, f2]
  case h_8 =>
    cases hy; obtain ⟨e', q1, q2⟩ := hx
    rename_i b off len cap
    cases cap with
    | known c => simp only [] at q2; subst q2; cases neg <;> simp [binOp, f1, f2]
    | upTo z => obtain ⟨ad, cp, rfl, _⟩ := q2; cases neg <;> simp [binOp, f1, f2]
  case h_9 => cases hx; cases hy; cases neg <;> simp [binOp, f1, f2]
  case h_10 => cases hx; obtain ⟨e', q1, rfl⟩ := hy; cases neg <;> simp [binOp, f1, f2]
  case h_11 => cases hy; obtain ⟨e', q1, rfl⟩ := hx; cases neg <;> simp [binOp, f1, f2]
  case h_12 => cases hx; cases hy; cases neg <;> simp [binOp, f1, f2]
  case h_13 => cases hx; obtain ⟨p1, p2, rfl, _⟩ := hy; cases neg <;> simp [binOp, f1, f2]
  case h_14 => cases hy; obtain ⟨p1, p2, rfl, _⟩ := hx; cases neg <;> simp [binOp, f1, f2]
  case h_15 => cases hx; cases hy; cases neg <;> simp [binOp, f1, f2]
  case h_16 => cases hx; obtain ⟨p1, rfl, _⟩ := hy; cases neg <;> simp [binOp, f1, f2]
  case h_17 => cases hy; obtain ⟨p1, rfl, _⟩ := hx; cases neg <;> simp [binOp, f1, f2]
  case h_18 => cases h
theorem eqv_ok (hR : R aw w m base) (hfr : FR m N fr act.tmps) {neg : Bool} {t yt : TypeId} {ty : EqTy} {x y : Operand} {a b : Opd} (ho : o.op = .binOp (if neg then .neq else .eql) t x y yt) (hx : cOpd x = some a) (hy : cOpd y = some b)
    (ht : eqTyOf P t ty) (hn : ty = .iface → isNilIface x = true ∨ isNilIface y = true)
    {va vb : V} {r : Bool} (h1 : a.ev fr = some va) (h2 : b.ev fr = some vb) (h : eqV ty va vb = some r) : OpOK P o act aw aw w m base (.val (.bool (neg != r))) := by
  have e1 := cOpd_ok hfr hx h1
  have e2 := cOpd_ok hfr hy h2
  refine OpOK.quiet hR (v' := .bool (neg != r)) ?_ rfl
  have e3 := eqV_run (P := P) (w := w) 9999 ht e1 e2 h
  have e4 : (Op.equal t (act.eval x) (act.eval y)).run P w = .ok r w := e3
  simp only [execOp, ho, eqvGuard e1 e2 h hn, binOp_equal e1 e2 h neg]
  simp [e4]
end
end Go.AE
