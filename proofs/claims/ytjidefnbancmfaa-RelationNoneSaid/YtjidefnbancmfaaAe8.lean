/- AE, part 8: the operations that look at no memory are the model's: one by one. -/
import Derived.Test.YtjidefnbancmfaaAe7
set_option linter.unusedVariables false
set_option linter.unusedSimpArgs false
namespace Go.AE

def OpOK (P : Program) (o : Oper) (a : Act) (aw aw' : AW) (w : World) (m : Map) (base : Nat) : Res → Prop
  | .val v => ∃ v' w' m', (execOp a.eval o).run P w = .ok (.value v') w' ∧ VR m' v v' ∧ R aw' w' m' base ∧ Goes aw aw' w w' m m'
  | .skip => ∃ w' m', (execOp a.eval o).run P w = .ok .skip w' ∧ R aw' w' m' base ∧ Goes aw aw' w w' m m'
  | .call f args => aw' = aw ∧ ∃ args', (execOp a.eval o).run P w = (callFunc f args').run P w ∧ VRs m args args'.toList

section
variable {P : Program} {o : Oper} {act : Act} {aw : AW} {w : World} {m : Map} {base N : Nat} {fr : Fr}
theorem OpOK.quiet {v : V} {v' : Value} (hR : R aw w m base) (h : (execOp act.eval o).run P w = .ok (.value v') w) (hv : VR m v v') : OpOK P o act aw aw w m base (.val v) :=
  ⟨v', w, m, h, hv, hR, .refl aw w m⟩

theorem mov_ok (hR : R aw w m base) (hfr : FR m N fr act.tmps) {x : Operand} {a : Opd} (ho : o.op = .move x ∨ o.op = .assign x) (hc : cOpd x = some a) {v : V} (hv : a.ev fr = some v) :
    OpOK P o act aw aw w m base (.val v) := by
  refine OpOK.quiet (v' := act.eval x) hR ?_ (cOpd_ok hfr hc hv)
  rcases ho with ho | ho <;> simp only [execOp, ho] <;> rfl
theorem pick_ok (hR : R aw w m base) (hfr : FR m N fr act.tmps) {c x y : Operand} {c' a b : Opd} (ho : o.op = .pick c x y) (hc : cOpd c = some c') (hx : cOpd x = some a) (hy : cOpd y = some b)
    {r : Bool} {v : V} (h1 : c'.ev fr = some (.bool r)) (h2 : (if r then a else b).ev fr = some v) : OpOK P o act aw aw w m base (.val v) := by
  have e1 : act.eval c = .bool r := cOpd_ok hfr hc h1
  cases r with
  | true =>
    refine OpOK.quiet (v' := act.eval x) hR ?_ (cOpd_ok hfr hx h2)
    simp [execOp, ho, e1, asBool]
  | false =>
    refine OpOK.quiet (v' := act.eval y) hR ?_ (cOpd_ok hfr hy h2)
    simp [execOp, ho, e1, asBool]

theorem binI_ok (op : BinOp) (t : TypeId) (k : IntKind) (a b : Int) {v : V} (hs : op ≠ .shl ∧ op ≠ .shr) (h : binI op k a b = some v) :
    ∃ v', (binOp op t (.int k a) (.int k b)).run P w = .ok v' w ∧ VR m v v' := by
  cases op <;> simp only [binI, Option.some.injEq, reduceCtorEq] at h
  case add => subst h; exact ⟨.int k (k.wrap (a + b)), by simp [binOp, Op.intArith], rfl⟩
  case sub => subst h; exact ⟨.int k (k.wrap (a - b)), by simp [binOp, Op.intArith], rfl⟩
  case mul => subst h; exact ⟨.int k (k.wrap (a * b)), by simp [binOp, Op.intArith], rfl⟩
  case quo =>
    split at h
    · cases h
    · rename_i hb; cases h; exact ⟨.int k (k.wrap (a.tdiv b)), by simp [binOp, Op.intDiv, hb], rfl⟩
  case rem =>
    split at h
    · cases h
    · rename_i hb; cases h; exact ⟨.int k (a.tmod b), by simp [binOp, Op.intDiv, hb], rfl⟩
  case and => subst h; exact ⟨.int k (bitsI .and k a b), by simp [binOp, Op.intBits, bitsI], rfl⟩
  case or => subst h; exact ⟨.int k (bitsI .or k a b), by simp [binOp, Op.intBits, bitsI], rfl⟩
  case xor => subst h; exact ⟨.int k (bitsI .xor k a b), by simp [binOp, Op.intBits, bitsI], rfl⟩
  case andNot => subst h; exact ⟨.int k (bitsI .andNot k a b), by simp [binOp, Op.intBits, bitsI], rfl⟩
  case eql => subst h; exact ⟨.bool (a == b), by simp [binOp, Op.intCmp], rfl⟩
  case neq => subst h; exact ⟨.bool (a != b), by simp [binOp, Op.intCmp], rfl⟩
  case lss => subst h; exact ⟨.bool (decide (a < b)), by simp [binOp, Op.intCmp], rfl⟩
  case leq => subst h; exact ⟨.bool (decide (a ≤ b)), by simp [binOp, Op.intCmp], rfl⟩
  case gtr => subst h; exact ⟨.bool (decide (a > b)), by simp [binOp, Op.intCmp], rfl⟩
  case geq => subst h; exact ⟨.bool (decide (a ≥ b)), by simp [binOp, Op.intCmp], rfl⟩
theorem shiftI_ok (op : BinOp) (t : TypeId) (k k' : IntKind) (a b : Int) {v : V} (h : shiftI op k a b = some v) :
    ∃ v', (binOp op t (.int k a) (.int k' b)).run P w = .ok v' w ∧ VR m v v' := by
  unfold shiftI at h
  split at h
  · cases h
  · rename_i hb
    cases op <;> simp only [Option.some.injEq, reduceCtorEq] at h
    case shl => subst h; exact ⟨.int k (k.wrap (a * 2 ^ (min b.toNat k.bits))), by simp only [binOp, Op.shift]; rw [if_neg hb]; rfl, rfl⟩
    case shr => subst h; exact ⟨.int k (a.fdiv (2 ^ (min b.toNat k.bits))), by simp only [binOp, Op.shift]; rw [if_neg hb]; rfl, rfl⟩
theorem strS_ok (op : BinOp) (t : TypeId) (a b : ByteArray) {v : V} (h : strS op (strL a) (strL b) = some v) :
    ∃ v', (binOp op t (.string a) (.string b)).run P w = .ok v' w ∧ VR m v v' := by
  have e1 : (a.toList == b.toList) = eqL (strL a) (strL b) := eq_bytes a b
  have e2 : Op.bytesLess a.toList b.toList = lessL (strL a) (strL b) := by rw [toList_data, toList_data]; exact less_bytes _ _
  cases op <;> simp only [strS, Option.some.injEq, reduceCtorEq] at h
  case add =>
    split at h
    · rename_i hl
      cases h
      rw [strL_length, strL_length] at hl
      refine ⟨.string (a ++ b), ?_, _, rfl, ?_⟩
      · have : ¬ (((a.size + b.size : Nat) : Int) > 9223372036854775807) := by omega
        simp only [binOp, Op.stringOp, IntKind.max_i64]
        rw [if_neg this]
        rfl
      · simp [strL, ByteArray.data_append]
    · cases h
  case eql => subst h; exact ⟨.bool (eqL (strL a) (strL b)), by simp only [binOp, Op.stringOp, e1, e2]; rfl, rfl⟩
  case neq => subst h; exact ⟨.bool (!eqL (strL a) (strL b)), by simp only [binOp, Op.stringOp, e1, e2]; rfl, rfl⟩
  case lss => subst h; exact ⟨.bool (lessL (strL a) (strL b)), by simp only [binOp, Op.stringOp, e1, e2]; rfl, rfl⟩
  case leq => subst h; exact ⟨.bool (lessL (strL a) (strL b) || eqL (strL a) (strL b)), by simp only [binOp, Op.stringOp, e1, e2]; rfl, rfl⟩
  case gtr => subst h; exact ⟨.bool (!(lessL (strL a) (strL b) || eqL (strL a) (strL b))), by simp only [binOp, Op.stringOp, e1, e2]; rfl, rfl⟩
  case geq => subst h; exact ⟨.bool (!lessL (strL a) (strL b)), by simp only [binOp, Op.stringOp, e1, e2]; rfl, rfl⟩
theorem aBin_ok (op : BinOp) (t : TypeId) {x y : Value} {a b v : V} (hx : VR m a x) (hy : VR m b y) (h : aBin op a b = some v) :
    ∃ v', (binOp op t x y).run P w = .ok v' w ∧ VR m v v' := by
  unfold aBin at h
  split at h
  · rename_i k a k' b
    cases hx; cases hy
    cases op
    case shl => exact shiftI_ok _ t k k' a b h
    case shr => exact shiftI_ok _ t k k' a b h
    all_goals
      simp only [] at h
      split at h
      · rename_i hk
        subst hk
        exact binI_ok _ t k a b ⟨by simp, by simp⟩ h
      · cases h
  · obtain ⟨s, rfl, rfl⟩ := hx
    obtain ⟨s', rfl, rfl⟩ := hy
    exact strS_ok op t s s' h
  · cases h
theorem eqGuard_ok (op : BinOp) (t : TypeId) (ox oy : Operand) {x y : Value} {a b v : V} (hx : VR m a x) (hy : VR m b y) (h : aBin op a b = some v) : eqGuard op t ox oy x y = pure () := by
  unfold aBin at h
  split at h
  · cases hx; cases hy; exact eqGuard_at_int ..
  · obtain ⟨s, rfl, rfl⟩ := hx; exact eqGuard_at_string ..
  · cases h
theorem bin_ok (hR : R aw w m base) (hfr : FR m N fr act.tmps) {op : BinOp} {t yt : TypeId} {x y : Operand} {a b : Opd} (ho : o.op = .binOp op t x y yt) (hx : cOpd x = some a) (hy : cOpd y = some b)
    {va vb v : V} (h1 : a.ev fr = some va) (h2 : b.ev fr = some vb) (h : aBin op va vb = some v) : OpOK P o act aw aw w m base (.val v) := by
  have e1 := cOpd_ok hfr hx h1
  have e2 := cOpd_ok hfr hy h2
  obtain ⟨v', h3, h4⟩ := aBin_ok (P := P) (w := w) op t e1 e2 h
  refine OpOK.quiet hR ?_ h4
  simp only [execOp, ho, eqGuard_ok op t x y e1 e2 h]
  simp [h3]

theorem un_ok (hR : R aw w m base) (hfr : FR m N fr act.tmps) {op : UnOp} {t : TypeId} {x : Operand} {a : Opd} (ho : o.op = .unOp op t x) (hx : cOpd x = some a)
    {va v : V} (h1 : a.ev fr = some va) (h : aUn op va = some v) : OpOK P o act aw aw w m base (.val v) := by
  have e1 := cOpd_ok hfr hx h1
  unfold aUn at h
  split at h
  · rename_i k n
    cases hq : act.eval x <;> rw [hq] at e1 <;> cases e1
    split at h <;> cases h
    · exact OpOK.quiet hR (v' := .int k (k.wrap (0 - n))) (by simp [execOp, ho, hq, Op.unary, Op.intArith]) rfl
    · exact OpOK.quiet hR (v' := .int k (bitsI .xor k (if k.signed then -1 else k.max) n)) (by simp [execOp, ho, hq, Op.unary, Op.intBits, bitsI]) rfl
  · rename_i b
    cases hq : act.eval x <;> rw [hq] at e1 <;> cases e1
    split at h <;> cases h
    exact OpOK.quiet hR (v' := .bool (!b)) (by simp [execOp, ho, hq, Op.unary]) rfl
  · cases h
theorem conv_ok (hR : R aw w m base) (hfr : FR m N fr act.tmps) {src dst : TypeId} {k0 k : IntKind} {x : Operand} {a : Opd} (ho : o.op = .convert src dst x) (hs : P.underlying src = some (.int k0)) (hd : P.underlying dst = some (.int k))
    (hx : cOpd x = some a) {k' : IntKind} {n : Int} (h1 : a.ev fr = some (.int k' n)) : OpOK P o act aw aw w m base (.val (.int k (k.wrap n))) := by
  have e1 : act.eval x = .int k' n := cOpd_ok hfr hx h1
  refine OpOK.quiet hR (v' := .int k (k.wrap n)) ?_ rfl
  simp [execOp, ho, e1, convert, run_underlying hs, run_underlying hd, Conv.intToInt]
theorem convStr_ok (hR : R aw w m base) (hfr : FR m N fr act.tmps) {src dst : TypeId} {x : Operand} {a : Opd} (ho : o.op = .convert src dst x) (hs : P.underlying src = some .string) (hd : P.underlying dst = some .string)
    (hx : cOpd x = some a) {l : List Nat} (h1 : a.ev fr = some (.str l)) : OpOK P o act aw aw w m base (.val (.str l)) := by
  obtain ⟨s, e1, e2⟩ := cOpd_ok hfr hx h1
  refine OpOK.quiet hR (v' := .string s) ?_ ⟨s, rfl, e2⟩
  simp [execOp, ho, e1, convert, run_underlying hs, run_underlying hd]
theorem nilCheck_ok (hR : R aw w m base) (hfr : FR m N fr act.tmps) {x : Operand} {a : Opd} (ho : o.op = .nilCheck x) (hx : cOpd x = some a) {v : V} (h1 : a.ev fr = some v)
    (hv : (∃ b off, v = .ptr b off) ∨ (∃ f p q, v = .func (.func f) p q) ∨ (∃ t u, v = .iface t u)) : OpOK P o act aw aw w m base (.val v) := by
  have e0 := cOpd_ok hfr hx h1
  rcases hv with ⟨b, off, rfl⟩ | ⟨f, p, q, rfl⟩ | ⟨t, u, rfl⟩
  · obtain ⟨e, _, e1⟩ := id e0
    refine OpOK.quiet hR (v' := act.eval x) ?_ e0
    simp [execOp, ho, e1]
  · obtain ⟨f', c', e1, _, _⟩ := id e0
    refine OpOK.quiet hR (v' := act.eval x) ?_ e0
    simp [execOp, ho, e1]
  · obtain ⟨y, e1, _⟩ := id e0
    refine OpOK.quiet hR (v' := act.eval x) ?_ e0
    simp [execOp, ho, e1]
theorem fieldAddr_ok (hR : R aw w m base) (hfr : FR m N fr act.tmps) {s : TypeId} {x : Operand} {f : Nat} {a : Opd} {fs : Array Field} {fd : Field} {n : Nat} (ho : o.op = .fieldAddr s x f) (hx : cOpd x = some a)
    (hu : P.underlying s = some (.struct fs)) (hf : fs[f]? = some fd) (hs : sizeOf? P fd.type = some (n + 1)) {b off : Nat} (h1 : a.ev fr = some (.ptr b off)) :
    OpOK P o act aw aw w m base (.val (.ptr b (off + fd.offset))) := by
  obtain ⟨e, hm, e1⟩ := cOpd_ok hfr hx h1
  have hi : ∃ i, P.info? fd.type = some i ∧ i.size = n + 1 := by
    unfold sizeOf? at hs
    split at hs
    · rename_i i hi; exact ⟨i, hi, by simpa using hs⟩
    · cases hs
  obtain ⟨i, hi, hin⟩ := hi
  refine OpOK.quiet hR (v' := .pointer (some ⟨e.c, e.s + (off + fd.offset), none⟩)) ?_ ⟨e, hm, rfl⟩
  simp [execOp, ho, e1, Instr.fieldAt, run_underlying hu, hf, Instr.sureAddr, fieldPlace, sizeOf, typeInfo, hi, hin, Addr.add_lit, Nat.add_assoc]
theorem idx_inv {m : Map} {v : V} {x : Value} {n : Nat} (h : idx v = some n) (hv : VR m v x) : ∃ k, x = .int k (n : Int) := by
  unfold idx at h
  split at h
  · cases h; exact ⟨_, hv⟩
  · cases h
theorem size_inv {P : Program} {t : TypeId} {n : Nat} (hs : sizeOf? P t = some n) : ∃ i, P.info? t = some i ∧ i.size = n := by
  unfold sizeOf? at hs
  split at hs
  · rename_i i hi; exact ⟨i, hi, by simpa using hs⟩
  · cases hs
theorem indexAddr_ok (hR : R aw w m base) (hfr : FR m N fr act.tmps) {t el : TypeId} {x i : Operand} {a c : Opd} {esz : Nat} (ho : o.op = .indexAddr t x i) (hx : cOpd x = some a) (hi : cOpd i = some c)
    (hu : P.underlying t = some (.slice el)) (hs : sizeOf? P el = some esz) {b off len n : Nat} {cap : Cap} {iv : V} (h1 : a.ev fr = some (.slice b off len cap)) (h2 : c.ev fr = some iv) (h3 : idx iv = some n) (hn : n < len) :
    OpOK P o act aw aw w m base (.val (.ptr b (off + n * esz))) := by
  obtain ⟨e, hm, e1⟩ := cOpd_ok hfr hx h1
  obtain ⟨k, e2⟩ := idx_inv h3 (cOpd_ok hfr hi h2)
  obtain ⟨inf, hinf, hsz⟩ := size_inv hs
  have e3 : ∃ cp, act.eval x = .slice (some ⟨e.c, e.s + off, none⟩) len cp := by
    cases cap with
    | known c => exact ⟨c, e1⟩
    | upTo z =>
      obtain ⟨ad, cp, q1, q2, q3⟩ := e1
      rcases q3 with ⟨rfl, _⟩ | rfl
      · exact ⟨cp, q1⟩
      · omega
  obtain ⟨cp, e3⟩ := e3
  refine OpOK.quiet hR (v' := .pointer (some ⟨e.c, e.s + (off + n * esz), none⟩)) ?_ ⟨e, hm, rfl⟩
  have hlt : (n : Int) < (len : Int) := by omega
  simp [execOp, ho, e3, e2, Instr.indexAt, run_underlying hu, asIntOf, hn, sizeOf, typeInfo, hinf, hsz, Addr.add_lit, Nat.add_assoc]
theorem indexArr_ok (hR : R aw w m base) (hfr : FR m N fr act.tmps) {t el : TypeId} {x i : Operand} {a c : Opd} {esz len : Nat} (ho : o.op = .indexAddr t x i) (hx : cOpd x = some a) (hi : cOpd i = some c)
    (hu : P.underlying t = some (.array len el)) (hs : sizeOf? P el = some esz) {b off n : Nat} {iv : V} (h1 : a.ev fr = some (.ptr b off)) (h2 : c.ev fr = some iv) (h3 : idx iv = some n) (hn : n < len) :
    OpOK P o act aw aw w m base (.val (.ptr b (off + n * esz))) := by
  obtain ⟨e, hm, e1⟩ := cOpd_ok hfr hx h1
  obtain ⟨k, e2⟩ := idx_inv h3 (cOpd_ok hfr hi h2)
  obtain ⟨inf, hinf, hsz⟩ := size_inv hs
  refine OpOK.quiet hR (v' := .pointer (some ⟨e.c, e.s + (off + n * esz), none⟩)) ?_ ⟨e, hm, rfl⟩
  have hlt : (n : Int) < (len : Int) := by omega
  simp [execOp, ho, e1, e2, Instr.indexAt, Instr.sureAddr, run_underlying hu, asIntOf, hn, sizeOf, typeInfo, hinf, hsz, Addr.add_lit, Nat.add_assoc]
theorem indexStr_ok (hR : R aw w m base) (hfr : FR m N fr act.tmps) {t : TypeId} {x i : Operand} {a c : Opd} (ho : o.op = .index t x i) (hx : cOpd x = some a) (hi : cOpd i = some c)
    (hu : P.underlying t = some .string) {l : List Nat} {n ch : Nat} {iv : V} (h1 : a.ev fr = some (.str l)) (h2 : c.ev fr = some iv) (h3 : idx iv = some n) (hn : l[n]? = some ch) :
    OpOK P o act aw aw w m base (.val (.int .u8 (Int.ofNat ch))) := by
  obtain ⟨s, e1, rfl⟩ := cOpd_ok hfr hx h1
  obtain ⟨k, e2⟩ := idx_inv h3 (cOpd_ok hfr hi h2)
  have hch : ∃ u, s[n]? = some u ∧ u.toNat = ch := by
    simp only [strL, List.getElem?_map, Option.map_eq_some_iff] at hn
    obtain ⟨u, hu1, hu2⟩ := hn
    refine ⟨u, ?_, hu2⟩
    have hlt : n < s.data.toList.length := (List.getElem?_eq_some_iff.1 hu1).1
    have hlt' : n < s.size := by simpa [ByteArray.size_data] using hlt
    rw [List.getElem?_eq_getElem hlt] at hu1
    rw [getElem?_pos s n hlt']
    rw [← hu1]
    congr 1
  obtain ⟨u, hu1, rfl⟩ := hch
  refine OpOK.quiet hR (v' := .int .u8 u.toNat) ?_ rfl
  simp [execOp, ho, e1, e2, Instr.index, run_underlying hu, asIntOf, hu1]
end
end Go.AE
