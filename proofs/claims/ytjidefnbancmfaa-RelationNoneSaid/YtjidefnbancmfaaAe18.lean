/- AE, part 18: maps: the operations. -/
import Derived.Test.YtjidefnbancmfaaAe17
set_option linter.unusedVariables false
set_option linter.unusedSimpArgs false
namespace Go.AE

section
variable {P : Program} {o : Oper} {act : Act} {aw aw' : AW} {w : World} {m : Map} {base N : Nat} {fr : Fr}

theorem sameNow_scalar {s : Sc} {d : TypeDesc} (hd : (match d with | .int _ => some Sc.int | .string => some .str | .bool => some .bool | _ => none) = some s) {a b : V} {x y : Value} (hx : VR m a x) (hy : VR m b y) {r : Bool} (h : eqScalar s a b = some r) :
    Instr.sameNow d x y = some r := by
  unfold eqScalar at h
  split at h
  · split at h
    · rename_i k a k' b hk
      subst hk
      cases h; cases hx; cases hy
      cases d <;> simp at hd
      simp [Instr.sameNow]
    · cases h
  · cases h
    obtain ⟨s, rfl, rfl⟩ := hx
    obtain ⟨s', rfl, rfl⟩ := hy
    cases d <;> simp at hd
    simp [Instr.sameNow, beq_toListBytes, eq_bytes]
  · cases h; cases hx; cases hy
    cases d <;> simp at hd
    simp [Instr.sameNow]
  · cases h
/-- what a search tells: nothing, or a place and what stands there. -/
def Hit (m : Map) (es : List (V × V × Nat)) (i0 : Nat) (ty : KeyTy) (k : V) : Option (Nat × V × Nat) → Option (Nat × Value) → Prop
  | none, r => r = none
  | some (i, v, n), r => ∃ v' k', r = some (i, v') ∧ VR m v v' ∧ i0 ≤ i ∧ es[i - i0]? = some (k', v, n) ∧ eqKey ty k k' = some true
theorem findNow_run {s : Sc} {d : TypeDesc} (hd : (match d with | .int _ => some Sc.int | .string => some .str | .bool => some .bool | _ => none) = some s) {k : V} {K : Value} (hk : VR m k K) :
    ∀ {es : List (V × V × Nat)} {l : List MapEntry} {i : Nat} {r : Option (Nat × V × Nat)}, ER m es l → findE (.scalar s) k es i = some r → ∃ r', Instr.findNow d K l i = some r' ∧ Hit m es i (.scalar s) k r r'
  | [], l, i, r, hl, h => by cases hl; cases h; exact ⟨none, rfl, rfl⟩
  | (k', v, n) :: es, l, i, r, hl, h => by
    obtain ⟨e, es', rfl, h1, h2, h3, h4⟩ := hl
    simp only [findE, eqKey] at h
    split at h
    · rename_i he
      cases h
      refine ⟨some (i, e.val), ?_, e.val, k', rfl, h2, Nat.le_refl _, by simp, by simpa [eqKey] using he⟩
      simp [Instr.findNow, sameNow_scalar hd hk h1 he]
    · rename_i he
      obtain ⟨r', q1, q2⟩ := findNow_run hd hk h4 h
      refine ⟨r', by simp [Instr.findNow, sameNow_scalar hd hk h1 he, q1], ?_⟩
      cases r with
      | none => exact q2
      | some p =>
        obtain ⟨j, u, q⟩ := p
        obtain ⟨v', k'', p1, p2, p3, p4, p5⟩ := q2
        refine ⟨v', k'', p1, p2, by omega, ?_, p5⟩
        rw [show j - i = (j - (i + 1)) + 1 by omega, List.getElem?_cons_succ]
        exact p4
    · cases h
theorem findAsk_run {kt : TypeId} {fs : Array Field} {sc : List Sc} (hu : P.underlying kt = some (.struct fs)) (hst : P.stoodInHeld kt = false) (hf : scFields P fs.toList 0 = some sc) {k : V} {K : Value} (hk : VR m k K) :
    ∀ {es : List (V × V × Nat)} {l : List MapEntry} {i : Nat} {r : Option (Nat × V × Nat)}, ER m es l → findE (.cells sc) k es i = some r → ∃ r', (Instr.findAsking kt K l i).run P w = .ok r' w ∧ Hit m es i (.cells sc) k r r'
  | [], l, i, r, hl, h => by cases hl; cases h; exact ⟨none, rfl, rfl⟩
  | (k', v, n) :: es, l, i, r, hl, h => by
    obtain ⟨e, es', rfl, h1, h2, h3, h4⟩ := hl
    have heq : ∀ b, eqKey (.cells sc) k k' = some b → (Op.equal kt K e.key).run P w = .ok b w := by
      intro b hb
      unfold eqKey at hb
      split at hb
      · rename_i heq; cases heq
      · rename_i heq; cases heq
        obtain ⟨xs, rfl, hxs⟩ := hk
        obtain ⟨ys, hys0, hys⟩ := h1
        rw [hys0]
        exact eqAgg_equal (P := P) (w := w) 9998 hu hst hf hxs hys hb
      · cases hb
    simp only [findE] at h
    split at h
    · rename_i he
      cases h
      refine ⟨some (i, e.val), ?_, e.val, k', rfl, h2, Nat.le_refl _, by simp, he⟩
      simp [Instr.findAsking, heq _ he]
    · rename_i he
      obtain ⟨r', q1, q2⟩ := findAsk_run hu hst hf hk h4 h
      refine ⟨r', by simp [Instr.findAsking, heq _ he, q1], ?_⟩
      cases r with
      | none => exact q2
      | some p =>
        obtain ⟨j, u, q⟩ := p
        obtain ⟨v', k'', p1, p2, p3, p4, p5⟩ := q2
        refine ⟨v', k'', p1, p2, by omega, ?_, p5⟩
        rw [show j - i = (j - (i + 1)) + 1 by omega, List.getElem?_cons_succ]
        exact p4
    · cases h
theorem findKey_run {kt : TypeId} {ty : KeyTy} (ht : keyTy P kt = some ty) {k : V} {K : Value} (hk : VR m k K) {es : List (V × V × Nat)} {l : List MapEntry} {r : Option (Nat × V × Nat)} (hl : ER m es l) (h : findE ty k es 0 = some r) :
    ∃ r', (Instr.findKey kt K l).run P w = .ok r' w ∧ Hit m es 0 ty k r r' := by
  unfold keyTy at ht
  split at ht
  · rename_i kk hu
    cases ht
    obtain ⟨r', q1, q2⟩ := findNow_run (d := .int kk) rfl hk hl h
    exact ⟨r', by simp [Instr.findKey, run_underlying hu, q1], q2⟩
  · rename_i hu
    cases ht
    obtain ⟨r', q1, q2⟩ := findNow_run (d := .string) rfl hk hl h
    exact ⟨r', by simp [Instr.findKey, run_underlying hu, q1], q2⟩
  · rename_i hu
    cases ht
    obtain ⟨r', q1, q2⟩ := findNow_run (d := .bool) rfl hk hl h
    exact ⟨r', by simp [Instr.findKey, run_underlying hu, q1], q2⟩
  · rename_i fs hu
    split at ht
    · rename_i sc hst hf
      cases ht
      obtain ⟨r', q1, q2⟩ := findAsk_run (P := P) (w := w) hu hst hf hk hl h
      refine ⟨r', ?_, q2⟩
      cases l with
      | nil =>
        simp only [Instr.findAsking, Sem.run_pure, Result.ok.injEq, and_true] at q1
        subst q1
        simp [Instr.findKey, run_underlying hu, Instr.findNow]
      | cons e l => simp [Instr.findKey, run_underlying hu, Instr.findNow, Instr.sameNow, q1]
    · cases ht
  · cases ht

/-- a map's entries as the model has them. -/
theorem entries_run (hR : R aw w m base) {v : V} {x : Value} (hv : VR m v x) {ob : Option Nat} {es : List (V × V × Nat)} {ck : Nat} (h : aw.entries v = some (ob, es, ck)) :
    (ob = none ∧ x = .map none ∧ es = [] ∧ ck = 0) ∨ ∃ b e es', ob = some b ∧ x = .map (some e.c) ∧ m b = some e ∧ aw.heap.get b = some (.map es ck) ∧ w.heap[e.c]? = some (.map es' ck) ∧ ER m es es'.toList ∧
      (getObj e.c).run P w = .ok (.map es' ck) w := by
  unfold AW.entries at h
  split at h
  · cases h; cases hv; exact .inl ⟨rfl, rfl, rfl, rfl⟩
  · split at h
    · rename_i hb
      cases h
      obtain ⟨e, hm, rfl⟩ := hv
      obtain ⟨es', h1, h2⟩ := hR.blk _ e _ hm hb
      exact .inr ⟨_, e, es', rfl, rfl, hm, hb, h1, h2, by simp [getObj, Sem.run, h1]⟩
    · cases h
  · cases h
theorem setObj_run {c : Nat} {o1 o2 : Obj} (h : w.heap[c]? = some o1) (hn : ∀ a b d, o1 ≠ .cells a b d) : (setObj c o2).run P w = .ok () (setObjW w c o2) := by
  cases o1 <;> first | exact absurd rfl (hn _ _ _) | (simp [setObj, Sem.run, h, setObjW]; done)
theorem turnMap (hR : R aw w m base) {b : Nat} {e : Emb} {es es2 : List (V × V × Nat)} {ck ck2 : Nat} (hm : m b = some e) (hb : aw.heap.get b = some (.map es ck)) {l2 : Array MapEntry} (h2 : ER m es2 l2.toList) :
    R (aw.turn b (.map es2 ck2)) (setObjW w e.c (.map l2 ck2)) m base ∧ Goes aw (aw.turn b (.map es2 ck2)) w (setObjW w e.c (.map l2 ck2)) m m :=
  hR.turn hm hb rfl (by simp [Blk.share]) rfl ⟨l2, setObjW_same (hR.lt b e hm).2, h2⟩
theorem modify_toList {l : Array MapEntry} {i : Nat} {f : MapEntry → MapEntry} {e : MapEntry} (h : l[i]? = some e) : (l.modify i f).toList = l.toList.set i (f e) := by
  rw [modify_set _ _ _ _ h, Array.toList_setIfInBounds]

theorem lookup_ok (hR : R aw w m base) (hfr : FR m N fr act.tmps) {t kt el : TypeId} {ty : KeyTy} {z : V} {ok : Bool} {x k : Operand} {a b : Opd} (ho : o.op = .lookup t x k ok) (hx : cOpd x = some a) (hk : cOpd k = some b)
    (hu : P.underlying t = some (.map kt el)) (ht : keyTy P kt = some ty) (hz : zeroOf P el = some z) {mv kv : V} {ob : Option Nat} {es : List (V × V × Nat)} {ck : Nat} {r : Option (Nat × V × Nat)} (h1 : a.ev fr = some mv) (h2 : b.ev fr = some kv)
    (h3 : aw.entries mv = some (ob, es, ck)) (h4 : keyOk ty kv = true) (h5 : findE ty kv es 0 = some r) :
    OpOK P o act aw aw w m base (.val (match (generalizing := false) r with
      | some (_, v, _) => (match (generalizing := false) ok with | true => .tuple [v, .bool true] | false => v)
      | none => (match (generalizing := false) ok with | true => .tuple [z, .bool false] | false => z))) := by
  have e1 := cOpd_ok hfr hx h1
  have e2 := cOpd_ok hfr hk h2
  obtain ⟨z', hz1, hz2⟩ := zero_ok (P := P) (w := w) (m := m) hz
  have hes : ∃ es' : Array MapEntry, ER m es es'.toList ∧ ((∃ w0, act.eval x = .map none ∧ es' = #[] ∧ w0 = w) ∨ ∃ c, act.eval x = .map (some c) ∧ (getObj c).run P w = .ok (.map es' ck) w) := by
    rcases entries_run (P := P) hR e1 h3 with ⟨_, q2, rfl, _⟩ | ⟨b, e, es', _, q2, _, _, _, q6, q7⟩
    · exact ⟨#[], rfl, .inl ⟨w, q2, rfl, rfl⟩⟩
    · exact ⟨es', q6, .inr ⟨_, q2, q7⟩⟩
  obtain ⟨es', q1, q2⟩ := hes
  obtain ⟨r', p1, p2⟩ := findKey_run (P := P) (w := w) ht e2 q1 h5
  have hck := checkKey_run (P := P) (w := w) ht e2 h4 es'.isEmpty
  have hrun : ∀ (v : Value) (bo : Bool), ((r' = none ∧ v = z' ∧ bo = false) ∨ ∃ i, r' = some (i, v) ∧ bo = true) → (execOp act.eval o).run P w = .ok (.value (if ok then .tuple #[v, .bool bo] else v)) w := by
    intro v bo hcase
    rcases q2 with ⟨_, hxe, rfl, _⟩ | ⟨c, hxe, hg⟩
    · rcases hcase with ⟨rfl, rfl, rfl⟩ | ⟨i, rfl, rfl⟩
      · simp only [execOp, ho, Instr.lookup, Sem.run_bind, run_underlying hu, Result.andThen_ok, hxe, hck, p1, hz1, Sem.run_pure]
      · simp only [execOp, ho, Instr.lookup, Sem.run_bind, run_underlying hu, Result.andThen_ok, hxe, hck, p1, hz1, Sem.run_pure]
    · rcases hcase with ⟨rfl, rfl, rfl⟩ | ⟨i, rfl, rfl⟩
      · simp only [execOp, ho, Instr.lookup, Sem.run_bind, run_underlying hu, Result.andThen_ok, hxe, hg, hck, p1, hz1, Sem.run_pure]
      · simp only [execOp, ho, Instr.lookup, Sem.run_bind, run_underlying hu, Result.andThen_ok, hxe, hg, hck, p1, hz1, Sem.run_pure]
  cases r with
  | none =>
    cases p2
    have := hrun z' false (.inl ⟨rfl, rfl, rfl⟩)
    cases ok with
    | true => exact OpOK.quiet hR this ⟨_, rfl, z', [.bool false], rfl, hz2, _, [], rfl, rfl, rfl⟩
    | false => exact OpOK.quiet hR this hz2
  | some p =>
    obtain ⟨i, v, n⟩ := p
    obtain ⟨v', k', rfl, p3, _⟩ := p2
    have := hrun v' true (.inr ⟨i, rfl, rfl⟩)
    cases ok with
    | true => exact OpOK.quiet hR this ⟨_, rfl, v', [.bool true], rfl, p3, _, [], rfl, rfl, rfl⟩
    | false => exact OpOK.quiet hR this p3

/-- what a hit says of the model's entries. -/
theorem hit_inv {ty : KeyTy} {k : V} {K : Value} (hk : VR m k K) {es : List (V × V × Nat)} {es' : Array MapEntry} (hl : ER m es es'.toList) {i : Nat} {v : V} {n : Nat} {r' : Option (Nat × Value)} (h : Hit m es 0 ty k (some (i, v, n)) r') :
    ∃ v' e, r' = some (i, v') ∧ VR m v v' ∧ es'[i]? = some e ∧ e.key = K ∧ VR m v e.val ∧ e.born = n ∧ (∀ P w, (Instr.keyThatStays (((es'[i]?).map (·.key)).getD K) K).run P w = .ok K w) ∧ ∃ k', es[i]? = some (k', v, n) := by
  obtain ⟨v', k', rfl, h2, _, h4, h5⟩ := h
  simp only [Nat.sub_zero] at h4
  obtain ⟨e, q1, q2, q3, q4⟩ := hl.get h4
  simp only [Array.getElem?_toList] at q1
  obtain ⟨p1, p2⟩ := eqKey_true hk q2 h5
  refine ⟨v', e, rfl, h2, q1, p1.symm, q3, q4, fun P w => ?_, k', h4⟩
  rw [q1, Option.map_some, Option.getD_some, ← p1]
  simp [Instr.keyThatStays, p2]
theorem setE_hit {es : List (V × V × Nat)} {i : Nat} {k k' v v0 : V} {n : Nat} (h : es[i]? = some (k', v0, n)) : setE i k v es = es.set i (k, v, n) := by simp [setE, h]
theorem mapUpdate_ok (hR : R aw w m base) (hfr : FR m N fr act.tmps) {t kt el : TypeId} {ty : KeyTy} {x k y : Operand} {a b c : Opd} (ho : o.op = .mapUpdate t x k y ∨ o.op = .insert t x k y) (hx : cOpd x = some a) (hk : cOpd k = some b) (hy : cOpd y = some c)
    (hu : P.underlying t = some (.map kt el)) (ht : keyTy P kt = some ty) {mv kv v : V} {bk : Nat} {es : List (V × V × Nat)} {ck : Nat} {r : Option (Nat × V × Nat)} (h1 : a.ev fr = some mv) (h2 : b.ev fr = some kv) (h2' : c.ev fr = some v)
    (h3 : aw.entries mv = some (some bk, es, ck)) (h4 : keyOk ty kv = true) (h5 : findE ty kv es 0 = some r) :
    OpOK P o act aw (match (generalizing := false) r with | some (i, _, _) => aw.turn bk (.map (setE i kv v es) ck) | none => aw.turn bk (.map (es ++ [(kv, v, ck)]) (ck + 1))) w m base .skip := by
  have e1 := cOpd_ok hfr hx h1
  have e2 := cOpd_ok hfr hk h2
  have e3 := cOpd_ok hfr hy h2'
  rcases entries_run (P := P) hR e1 h3 with ⟨q1, _⟩ | ⟨b', e, es', q1, q2, q3, q4, q5, q6, q7⟩
  · cases q1
  · cases q1
    obtain ⟨r', p1, p2⟩ := findKey_run (P := P) (w := w) ht e2 q6 h5
    have hck := checkKey_run (P := P) (w := w) ht e2 h4 false
    have hexec : execOp act.eval o = (do Instr.mapUpdate t (act.eval x) (act.eval k) (act.eval y); pure .skip : Sem Next) := by rcases ho with ho | ho <;> simp only [execOp, ho]
    cases r with
    | none =>
      cases p2
      obtain ⟨g1, g2⟩ := turnMap hR (ck2 := ck + 1) q3 q4 (l2 := es'.push { key := act.eval k, val := act.eval y, born := ck }) (by rw [Array.toList_push]; exact q6.push (e := { key := act.eval k, val := act.eval y, born := ck }) e2 e3 rfl)
      refine ⟨_, m, ?_, g1, g2⟩
      simp only [hexec, Instr.mapUpdate, Sem.run_bind, run_underlying hu, Result.andThen_ok, q2, q7, hck, p1, setObj_run q5 (by simp), Sem.run_pure]
    | some p =>
      obtain ⟨i, v0, n⟩ := p
      obtain ⟨v', e0, rfl, k1, k2, k3, k4, k5, k6, k', k7⟩ := hit_inv e2 q6 p2
      obtain ⟨g1, g2⟩ := turnMap hR (ck2 := ck) q3 q4 (l2 := es'.modify i fun e => { e with key := act.eval k, val := act.eval y }) (by rw [modify_toList k2]; exact q6.set (e := { e0 with key := act.eval k, val := act.eval y }) e2 e3 k5)
      rw [← setE_hit k7] at g1 g2
      refine ⟨_, m, ?_, g1, g2⟩
      simp only [hexec, Instr.mapUpdate, Sem.run_bind, run_underlying hu, Result.andThen_ok, q2, q7, hck, p1, k6, setObj_run q5 (by simp), Sem.run_pure]
theorem mapEntry_ok (hR : R aw w m base) (hfr : FR m N fr act.tmps) {t kt el : TypeId} {ty : KeyTy} {z : V} {x k : Operand} {a b : Opd} (ho : o.op = .mapEntry t x k) (hx : cOpd x = some a) (hk : cOpd k = some b)
    (hu : P.underlying t = some (.map kt el)) (ht : keyTy P kt = some ty) (hz : zeroOf P el = some z) {mv kv : V} {bk : Nat} {es : List (V × V × Nat)} {ck : Nat} {r : Option (Nat × V × Nat)} (h1 : a.ev fr = some mv) (h2 : b.ev fr = some kv)
    (h3 : aw.entries mv = some (some bk, es, ck)) (h4 : keyOk ty kv = true) (h5 : findE ty kv es 0 = some r) :
    OpOK P o act aw (match (generalizing := false) r with | some (i, v, _) => aw.turn bk (.map (setE i kv v es) ck) | none => aw.turn bk (.map (es ++ [(kv, z, ck)]) (ck + 1))) w m base
      (.val (match (generalizing := false) r with | some (_, v, n) => .tuple [v, .int .i64 (Int.ofNat n)] | none => .tuple [z, .int .i64 (Int.ofNat ck)])) := by
  have e1 := cOpd_ok hfr hx h1
  have e2 := cOpd_ok hfr hk h2
  obtain ⟨z', hz1, hz2⟩ := zero_ok (P := P) (w := w) (m := m) hz
  rcases entries_run (P := P) hR e1 h3 with ⟨q1, _⟩ | ⟨b', e, es', q1, q2, q3, q4, q5, q6, q7⟩
  · cases q1
  · cases q1
    obtain ⟨r', p1, p2⟩ := findKey_run (P := P) (w := w) ht e2 q6 h5
    have hck := checkKey_run (P := P) (w := w) ht e2 h4 false
    cases r with
    | none =>
      cases p2
      obtain ⟨g1, g2⟩ := turnMap hR (ck2 := ck + 1) q3 q4 (l2 := es'.push { key := act.eval k, val := z', born := ck }) (by rw [Array.toList_push]; exact q6.push (e := { key := act.eval k, val := z', born := ck }) e2 hz2 rfl)
      refine ⟨.tuple #[z', .int .i64 ck], _, m, ?_, ⟨_, rfl, z', [.int .i64 ck], rfl, hz2, _, [], rfl, rfl, rfl⟩, g1, g2⟩
      simp only [execOp, ho, Instr.mapEntry, Sem.run_bind, run_underlying hu, Result.andThen_ok, q2, q7, hck, p1, hz1, setObj_run q5 (by simp), Sem.run_pure, goInt]
    | some p =>
      obtain ⟨i, v0, n⟩ := p
      obtain ⟨v', e0, rfl, k1, k2, k3, k4, k5, k6, k', k7⟩ := hit_inv e2 q6 p2
      obtain ⟨g1, g2⟩ := turnMap hR (ck2 := ck) q3 q4 (l2 := es'.modify i fun e => { e with key := act.eval k }) (by rw [modify_toList k2]; exact q6.set (e := { e0 with key := act.eval k }) e2 k4 k5)
      rw [← setE_hit k7] at g1 g2
      refine ⟨.tuple #[v', .int .i64 n], _, m, ?_, ⟨_, rfl, v', [.int .i64 n], rfl, k1, _, [], rfl, rfl, rfl⟩, g1, g2⟩
      simp only [execOp, ho, Instr.mapEntry, Sem.run_bind, run_underlying hu, Result.andThen_ok, q2, q7, hck, p1, k6, setObj_run q5 (by simp), Sem.run_pure, goInt]
      simp [k2, k5]
theorem findIdx_ER : ∀ {es : List (V × V × Nat)} {l : List MapEntry} (n : Nat), ER m es l → l.findIdx? (fun e => (e.born : Int) == (n : Int)) = es.findIdx? (fun e => Nat.beq e.2.2 n)
  | [], l, n, h => by cases h; rfl
  | (k, v, q) :: es, l, n, h => by
    obtain ⟨e, r, rfl, _, _, h4, h5⟩ := h
    have hb : ((e.born : Int) == (n : Int)) = Nat.beq q n := by
      rw [Bool.eq_iff_iff, beq_iff_eq, Nat.beq_eq, h4]; omega
    simp only [List.findIdx?_cons, hb, findIdx_ER n h5]
theorem entryStore_ok (hR : R aw w m base) (hfr : FR m N fr act.tmps) {t : TypeId} {x s y : Operand} {a b c : Opd} (ho : o.op = .entryStore t x s y) (hx : cOpd x = some a) (hs : cOpd s = some b) (hy : cOpd y = some c)
    {mv sv v k : V} {bk n n' i : Nat} {es : List (V × V × Nat)} {ck : Nat} {v0 : V} (h1 : a.ev fr = some mv) (h2 : b.ev fr = some sv) (h2' : c.ev fr = some v)
    (h3 : aw.entries mv = some (some bk, es, ck)) (h4 : idx sv = some n) (h5 : es.findIdx? (fun e => Nat.beq e.2.2 n) = some i) (h6 : es[i]? = some (k, v0, n')) :
    OpOK P o act aw (aw.turn bk (.map (es.set i (k, v, n')) ck)) w m base .skip := by
  have e1 := cOpd_ok hfr hx h1
  obtain ⟨ki, e2⟩ := idx_inv h4 (cOpd_ok hfr hs h2)
  have e3 := cOpd_ok hfr hy h2'
  rcases entries_run (P := P) hR e1 h3 with ⟨q1, _⟩ | ⟨b', e, es', q1, q2, q3, q4, q5, q6, q7⟩
  · cases q1
  · cases q1
    obtain ⟨e0, p1, p2, p3, p4⟩ := q6.get h6
    simp only [Array.getElem?_toList] at p1
    obtain ⟨g1, g2⟩ := turnMap hR (ck2 := ck) q3 q4 (l2 := es'.modify i fun e => { e with val := act.eval y }) (by rw [modify_toList p1]; exact q6.set (e := { e0 with val := act.eval y }) p2 e3 p4)
    refine ⟨_, m, ?_, g1, g2⟩
    have hfi : es'.findIdx? (fun e => (e.born : Int) == (n : Int)) = some i := by
      rw [← h5, ← findIdx_ER n q6, ← List.findIdx?_toArray]
    simp only [execOp, ho, Instr.entryStore, Sem.run_bind, Result.andThen_ok, q2, e2, asInt, asIntOf, q7, hfi, setObj_run q5 (by simp), Sem.run_pure]
theorem delete_ok (hR : R aw w m base) (hfr : FR m N fr act.tmps) {t kt el : TypeId} {ty : KeyTy} {x k : Operand} {a b : Opd} {args : Array Operand} {ts : Array TypeId} {tr : List TypeId}
    (ho : o.op = .call { callee := .builtin .delete, args := args, argTypes := ts }) (hts : ts.toList = t :: tr) (hargs : args.toList = [x, k]) (hx : cOpd x = some a) (hk : cOpd k = some b)
    (hu : P.underlying t = some (.map kt el)) (ht : keyTy P kt = some ty) {mv kv : V} {ob : Option Nat} {es : List (V × V × Nat)} {ck : Nat} (h1 : a.ev fr = some mv) (h2 : b.ev fr = some kv)
    (h3 : aw.entries mv = some (ob, es, ck)) (h4 : keyOk ty kv = true)
    (h : (ob = none ∧ aw' = aw) ∨ ∃ bk r, ob = some bk ∧ findE ty kv es 0 = some r ∧ aw' = (match (generalizing := false) r with | some (i, _, _) => aw.turn bk (.map (es.eraseIdx i) ck) | none => aw.turn bk (.map es ck))) :
    OpOK P o act aw aw' w m base (.val (.tuple [])) := by
  have hargs' : args = #[x, k] := by cases args; simp_all
  have hts' : ts = (t :: tr).toArray := by cases ts; simp_all
  subst hargs' hts'
  have e1 := cOpd_ok hfr hx h1
  have e2 := cOpd_ok hfr hk h2
  rcases entries_run (P := P) hR e1 h3 with ⟨q1, q2, _⟩ | ⟨b', e, es', q1, q2, q3, q4, q5, q6, q7⟩
  · rcases h with ⟨_, rfl⟩ | ⟨bk, r, hb, _⟩
    · refine ⟨.tuple #[], w, m, run_builtin ho (vs := #[act.eval x, act.eval k]) (by simp) (fun _ => rfl) ?_, ⟨#[], rfl, rfl⟩, hR, .refl _ _ _⟩
      have hck := checkKey_run (P := P) (w := w) ht e2 h4 true
      simp [Builtin.delete_, run_underlying hu, q2, hck]
    · rw [q1] at hb; cases hb
  · rcases h with ⟨hb, _⟩ | ⟨bk, r, hb, h5, rfl⟩
    · rw [q1] at hb; cases hb
    · rw [q1] at hb; cases hb
      obtain ⟨r', p1, p2⟩ := findKey_run (P := P) (w := w) ht e2 q6 h5
      have hck := checkKey_run (P := P) (w := w) ht e2 h4 es'.isEmpty
      cases r with
      | none =>
        cases p2
        obtain ⟨g1, g2⟩ := turnMap hR (ck2 := ck) q3 q4 (l2 := es') q6
        refine ⟨.tuple #[], _, m, run_builtin ho (vs := #[act.eval x, act.eval k]) (by simp) (fun _ => rfl) ?_, ⟨#[], rfl, rfl⟩, g1, g2⟩
        simp [Builtin.delete_, run_underlying hu, q2, q7, hck, p1, setObj_run q5]
      | some p =>
        obtain ⟨i, v0, n⟩ := p
        obtain ⟨v', e0, rfl, k1, k2, k3, k4, k5, k6, k', k7⟩ := hit_inv e2 q6 p2
        have hi : i < es'.size := (Array.getElem?_eq_some_iff.1 k2).1
        obtain ⟨g1, g2⟩ := turnMap hR (ck2 := ck) q3 q4 (l2 := es'.eraseIdxIfInBounds i) (by rw [show (es'.eraseIdxIfInBounds i).toList = es'.toList.eraseIdx i by simp [Array.eraseIdxIfInBounds, hi]]; exact q6.erase)
        refine ⟨.tuple #[], _, m, run_builtin ho (vs := #[act.eval x, act.eval k]) (by simp) (fun _ => rfl) ?_, ⟨#[], rfl, rfl⟩, g1, g2⟩
        simp [Builtin.delete_, run_underlying hu, q2, q7, hck, p1, setObj_run q5]
theorem clearMap_ok (hR : R aw w m base) (hfr : FR m N fr act.tmps) {t kt el : TypeId} {x : Operand} {a : Opd} {args : Array Operand} {ts : Array TypeId} {tr : List TypeId}
    (ho : o.op = .call { callee := .builtin .clear, args := args, argTypes := ts }) (hts : ts.toList = t :: tr) (hargs : args.toList = [x]) (hx : cOpd x = some a)
    (hu : P.underlying t = some (.map kt el)) {mv : V} {ob : Option Nat} {es : List (V × V × Nat)} {ck : Nat} (h1 : a.ev fr = some mv) (h3 : aw.entries mv = some (ob, es, ck)) :
    OpOK P o act aw (match (generalizing := false) ob with | some bk => aw.turn bk (.map [] ck) | none => aw) w m base (.val (.tuple [])) := by
  have hargs' : args = #[x] := by cases args; simp_all
  have hts' : ts = (t :: tr).toArray := by cases ts; simp_all
  subst hargs' hts'
  have e1 := cOpd_ok hfr hx h1
  rcases entries_run (P := P) hR e1 h3 with ⟨rfl, q2, _⟩ | ⟨b', e, es', rfl, q2, q3, q4, q5, q6, q7⟩
  · refine ⟨.tuple #[], w, m, run_builtin ho (vs := #[act.eval x]) (by simp) (fun _ => rfl) ?_, ⟨#[], rfl, rfl⟩, hR, .refl _ _ _⟩
    simp [Builtin.clear_, run_underlying hu, q2]
  · obtain ⟨g1, g2⟩ := turnMap hR (ck2 := ck) q3 q4 (l2 := #[]) (es2 := []) rfl
    refine ⟨.tuple #[], _, m, run_builtin ho (vs := #[act.eval x]) (by simp) (fun _ => rfl) ?_, ⟨#[], rfl, rfl⟩, g1, g2⟩
    simp [Builtin.clear_, run_underlying hu, q2, q7, setObj_run q5]
theorem lenMap_ok (hR : R aw w m base) (hfr : FR m N fr act.tmps) {t kt el : TypeId} {x : Operand} {a : Opd} {args : Array Operand} {ts : Array TypeId}
    (ho : o.op = .call { callee := .builtin .len, args := args, argTypes := ts }) (hts : ts.toList = [t]) (hargs : args.toList = [x]) (hx : cOpd x = some a)
    (hu : P.underlying t = some (.map kt el)) {mv : V} {ob : Option Nat} {es : List (V × V × Nat)} {ck : Nat} (h1 : a.ev fr = some mv) (h3 : aw.entries mv = some (ob, es, ck)) :
    OpOK P o act aw aw w m base (.val (.int .i64 (Int.ofNat es.length))) := by
  obtain ⟨rfl, rfl⟩ := args1 hts hargs
  have e1 := cOpd_ok hfr hx h1
  refine OpOK.quiet hR (v' := .int .i64 (Int.ofNat es.length)) ?_ rfl
  refine run_builtin ho (vs := #[act.eval x]) (by simp) (fun _ => rfl) ?_
  rcases entries_run (P := P) hR e1 h3 with ⟨_, q2, rfl, _⟩ | ⟨b', e, es', _, q2, q3, q4, q5, q6, q7⟩
  · simp [Builtin.len_, run_underlying hu, q2, goInt]
  · have := q6.length
    simp only [Array.length_toList] at this
    simp [Builtin.len_, run_underlying hu, q2, q7, goInt, this]
theorem mkMap_ok (hR : R aw w m base) {t : TypeId} (ho : o.op = .makeMap t none) : OpOK P o act aw (aw.new (.map [] 0)) w m base (.val (.map aw.next)) := by
  obtain ⟨r1, r2⟩ := hR.new (.map [] 0) (.map #[] 0) 0 rfl ⟨#[], heap_new w _, rfl⟩
  refine ⟨.map (some w.heap.size), _, _, ?_, ⟨_, Map.set_same _ _ _, rfl⟩, r1, r2⟩
  simp [execOp, ho, Instr.makeMap]
end
end Go.AE
