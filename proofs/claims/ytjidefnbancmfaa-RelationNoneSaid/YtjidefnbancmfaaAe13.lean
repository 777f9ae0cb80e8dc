/- AE, part 13: reading and writing cells; new rows. -/
import Derived.Test.YtjidefnbancmfaaAe12
import Derived.Laws.BytesString
set_option linter.unusedVariables false
set_option linter.unusedSimpArgs false
namespace Go.AE

section
variable {P : Program} {o : Oper} {act : Act} {aw aw' : AW} {w : World} {m : Map} {base N : Nat} {fr : Fr}

/-- what is read of a block stands there. -/
theorem load_cells (hR : R aw w m base) {b off n : Nat} {l : List V} {e : Emb} (hm : m b = some e) (h : aw.load b off n = some l) :
    ∃ ys : List Value, ys.length = n ∧ VRs m l ys ∧ ∀ j v, ys[j]? = some v → w.cell? ((⟨e.c, e.s + off, none⟩ : Addr).add j) = some v := by
  unfold AW.load at h
  split at h
  · rename_i lb sh hb
    split at h
    · rename_i hal
      obtain ⟨cur, t, lo, hi, h1, h2, h3, h4, h5⟩ := hR.blk b e _ hm hb hal
      obtain ⟨q1, q2⟩ := takeN_eq h
      have hlen : off + n ≤ lb.length ∨ n = 0 := by simp at q2; omega
      refine ⟨(cur.toList.drop (e.s + off)).take n, ?_, ?_, ?_⟩
      · simp; omega
      · subst q1
        refine VRs.of_get ?_ (fun i x y hx hy => ?_)
        · simp; omega
        · simp only [List.getElem?_take, List.getElem?_drop] at hx hy
          split at hx
          · rename_i hi'
            rw [if_pos hi'] at hy
            obtain ⟨z, z1, z2⟩ := h5 _ _ hx
            simp only [Array.getElem?_toList] at hy
            rw [show e.s + off + i = e.s + (off + i) from by omega] at hy
            rw [z1] at hy; cases hy
            exact z2
          · cases hx
      · intro j v hj
        simp only [List.getElem?_take, List.getElem?_drop] at hj
        split at hj
        · have hadd : (⟨e.c, e.s + off, none⟩ : Addr).add j = ⟨e.c, e.s + off + j, none⟩ := by unfold Addr.add; split <;> simp_all
          rw [hadd]
          simp only [World.cell?, h1]
          simpa using hj
        · cases hj
    · cases h
  · cases h
theorem load_run (hR : R aw w m base) {b off n : Nat} {l : List V} {e : Emb} (hm : m b = some e) (h : aw.load b off n = some l) :
    ∃ ys : List Value, ys.length = n ∧ VRs m l ys ∧ (loadCells ⟨e.c, e.s + off, none⟩ n).run P w = .ok ys.toArray w := by
  obtain ⟨ys, h1, h2, h3⟩ := load_cells hR hm h
  refine ⟨ys, h1, h2, ?_⟩
  rw [← h1]
  exact run_loadCells_list w _ ys h3
theorem load1_run (hR : R aw w m base) {b off : Nat} {v : V} {e : Emb} (hm : m b = some e) (h : aw.load b off 1 = some [v]) :
    ∃ y, VR m v y ∧ (load ⟨e.c, e.s + off, none⟩).run P w = .ok y w := by
  obtain ⟨ys, h1, h2, h3⟩ := load_cells hR hm h
  obtain ⟨y, r, rfl, k1, k2⟩ := h2
  have := h3 0 y (by simp)
  simp only [Addr.add_zero'] at this
  exact ⟨y, k1, by simp [this]⟩
theorem loadA_ok (hR : R aw w m base) (hfr : FR m N fr act.tmps) {t : TypeId} {x : Operand} {a : Opd} {n : Nat} (ho : o.op = .load t x) (hx : cOpd x = some a) (hs : sizeOf? P t = some n) (hg : aggOf P t = some true)
    {b off : Nat} (h1 : a.ev fr = some (.ptr b off)) {l : List V} (h2 : aw.load b off n = some l) : OpOK P o act aw aw w m base (.val (.agg l)) := by
  obtain ⟨e, hm, e1⟩ := cOpd_ok hfr hx h1
  obtain ⟨ys, k1, k2, k3⟩ := load_run (P := P) hR hm h2
  refine OpOK.quiet hR (v' := .agg ys.toArray) ?_ ⟨_, rfl, k2⟩
  simp [execOp, ho, e1, Instr.loadAt, Instr.sureAddr, loadVar, run_isAgg hg, run_sizeOf hs, k3]
theorem load1_ok (hR : R aw w m base) (hfr : FR m N fr act.tmps) {t : TypeId} {x : Operand} {a : Opd} (ho : o.op = .load t x) (hx : cOpd x = some a) (hg : aggOf P t = some false)
    {b off : Nat} (h1 : a.ev fr = some (.ptr b off)) {v : V} (h2 : aw.load b off 1 = some [v]) : OpOK P o act aw aw w m base (.val v) := by
  obtain ⟨e, hm, e1⟩ := cOpd_ok hfr hx h1
  obtain ⟨y, k1, k2⟩ := load1_run (P := P) hR hm h2
  refine OpOK.quiet hR (v' := y) ?_ k1
  simp only [execOp, ho, e1, Instr.loadAt, Instr.sureAddr, loadVar, Sem.run_bind, Sem.run_pure, Result.andThen_ok, run_isAgg hg, Bool.false_eq_true, if_false, k2]

/-! ### Writing -/
theorem modify_set {α : Type} (a : Array α) (i : Nat) (f : α → α) (x : α) (h : a[i]? = some x) : a.modify i f = a.setIfInBounds i (f x) := by
  apply Array.ext
  · simp
  · intro j h1 h2
    simp only [Array.size_modify] at h1
    rw [Array.getElem_modify, Array.getElem_setIfInBounds]
    · by_cases hij : i = j
      · subst hij
        have : a[i] = x := by
          have := (Array.getElem?_eq_some_iff.1 h).2
          exact this
        simp [this]
      · simp [hij]
    · exact h1
theorem setCell_obj {c k : Nat} {cur : Array Value} {t : TypeId} {lo hi : Nat} {v : Value} (h : w.heap[c]? = some (.cells cur t (lo, hi))) : w.setCell ⟨c, k, none⟩ v = setObjW w c (.cells (cur.setIfInBounds k v) t (lo, hi)) := by
  unfold World.setCell setObjW
  rw [modify_set _ _ _ _ h]
  rfl
theorem setObj_twice {c : Nat} {o1 o2 : Obj} : setObjW (setObjW w c o1) c o2 = setObjW w c o2 := by
  simp only [setObjW]
  congr 1
  exact Array.setIfInBounds_setIfInBounds ..
theorem setObj_self {c : Nat} {o1 : Obj} (h : w.heap[c]? = some o1) : setObjW w c o1 = w := by
  have : w.heap.setIfInBounds c o1 = w.heap := by
    apply Array.ext
    · simp
    · intro j h1 h2
      rw [Array.getElem_setIfInBounds]
      · by_cases hij : c = j
        · subst hij
          simp
          exact ((Array.getElem?_eq_some_iff.1 h).2).symm
        · simp [hij]
      · exact h2
  simp [setObjW, this]
theorem run_storeRow (c off : Nat) (t : TypeId) (lo hi : Nat) : ∀ (vs : List Value) (i : Nat) (cur : Array Value) (w : World), w.heap[c]? = some (.cells cur t (lo, hi)) → (lo = hi ∨ cur.size ≤ lo) → off + i + vs.length ≤ cur.size → (∀ v ∈ vs, v.oneCell' = true) →
    ∃ cur' : Array Value, (storeCells ⟨c, off, none⟩ vs i).run P w = .ok () (setObjW w c (.cells cur' t (lo, hi))) ∧ cur'.size = cur.size ∧ ∀ j, cur'[j]? = if off + i ≤ j ∧ j < off + i + vs.length then vs[j - (off + i)]? else cur[j]?
  | [], i, cur, w, hg, hf, _, _ => by
    refine ⟨cur, ?_, rfl, fun j => ?_⟩
    · rw [setObj_self hg]; rfl
    · rw [if_neg (by simp)]
  | v :: vs, i, cur, w, hg, hf, hl, h1 => by
    simp only [List.length_cons] at hl
    have hk : off + i < cur.size := by omega
    have hadd : (⟨c, off, none⟩ : Addr).add i = ⟨c, off + i, none⟩ := by unfold Addr.add; split <;> simp_all
    have hcell : w.cell? ⟨c, off + i, none⟩ = some cur[off + i] := by simp [World.cell?, hg, hk]
    have hfro : w.frozen? ⟨c, off + i, none⟩ = false := by
      simp only [World.frozen?, hg, Bool.and_eq_false_iff, decide_eq_false_iff_not]
      omega
    have hst : (store ((⟨c, off, none⟩ : Addr).add i) v).run P w = .ok () (setObjW w c (.cells (cur.setIfInBounds (off + i) v) t (lo, hi))) := by
      rw [hadd, run_store P w _ v _ (h1 v (by simp)), hcell]
      simp [hfro, setCell_obj hg]
    have hc : c < w.heap.size := (Array.getElem?_eq_some_iff.1 hg).1
    obtain ⟨cur', k1, k2, k3⟩ := run_storeRow c off t lo hi vs (i + 1) (cur.setIfInBounds (off + i) v) (setObjW w c (.cells (cur.setIfInBounds (off + i) v) t (lo, hi))) (setObjW_same hc) (by simpa using hf) (by simp; omega) (fun x hx => h1 x (by simp [hx]))
    refine ⟨cur', ?_, by simpa using k2, fun j => ?_⟩
    · simp only [storeCells, Sem.run_bind, hst, Result.andThen_ok, k1, setObj_twice]
    · rw [k3 j]
      simp only [List.length_cons]
      by_cases c1 : off + (i + 1) ≤ j ∧ j < off + (i + 1) + vs.length
      · rw [if_pos c1, if_pos (by omega)]
        have : j - (off + i) = (j - (off + (i + 1))) + 1 := by omega
        rw [this, List.getElem?_cons_succ]
      · rw [if_neg c1]
        by_cases c2 : j = off + i
        · subst c2
          rw [if_pos (by omega)]
          simp [hk]
        · rw [if_neg (by omega), Array.getElem?_setIfInBounds_ne (by omega)]
theorem one_ok {v : V} {x : Value} (h : VR m v x) (h1 : v.one = true) : x.oneCell' = true := by
  cases v <;> simp only [V.one] at h1
  case agg => cases h1
  case tuple => cases h1
  case undef => cases h1
  case str => obtain ⟨s, rfl, _⟩ := h; rfl
  case ptr => obtain ⟨e, _, rfl⟩ := h; rfl
  case map => obtain ⟨e, _, rfl⟩ := h; rfl
  case iface => obtain ⟨y, rfl, _⟩ := h; rfl
  case func => obtain ⟨f', c', rfl, _⟩ := h; rfl
  case slice b off len cap =>
    obtain ⟨e, _, h2⟩ := h
    cases cap with
    | known c => simp only [] at h2; subst h2; rfl
    | upTo z => obtain ⟨ad, cp, rfl, _⟩ := h2; rfl
  all_goals (cases h; rfl)
theorem allOne_ok : ∀ {l : List V} {l' : List Value}, VRs m l l' → allOne l = true → ∀ x ∈ l', x.oneCell' = true
  | [], l', h, _, x, hx => by cases h; cases hx
  | v :: l, l', h, ha, x, hx => by
    obtain ⟨y, ys, rfl, h2, h3⟩ := h
    simp only [allOne] at ha
    split at ha
    · rename_i h1
      rcases List.mem_cons.1 hx with rfl | hx
      · exact one_ok h2 h1
      · exact allOne_ok h3 ha x hx
    · cases ha
/-- A write of some cells. -/
theorem store_run (hR : R aw w m base) {b off : Nat} {vs : List V} {ys : List Value} {e : Emb} (hm : m b = some e) (hv : VRs m vs ys) (h : aw.store b off vs = some aw') :
    ∃ w', (storeCells ⟨e.c, e.s + off, none⟩ ys).run P w = .ok () w' ∧ R aw' w' m base ∧ Goes aw aw' w w' m m := by
  unfold AW.store at h
  split at h
  · rename_i l sh hb
    have main : ∀ l', aw.alive b sh = true → sh ≠ .ro → allOne vs = true → over l off vs = some l' → ∃ w', (storeCells ⟨e.c, e.s + off, none⟩ ys).run P w = .ok () w' ∧ R (aw.turn b (.cells l' sh)) w' m base ∧ Goes aw (aw.turn b (.cells l' sh)) w w' m m := by
      intro l' hal hro h1 ho
      obtain ⟨cur, t, lo, hi, k1, k2, k3, k4, k5⟩ := hR.blk b e _ hm hb hal
      obtain ⟨g1, g2, g3⟩ := getElem?_over ho
      have hlen := hv.length
      obtain ⟨cur', r1, r2, r3⟩ := run_storeRow (P := P) e.c (e.s + off) t lo hi ys 0 cur w k1 (k4.imp id (·.2)) (by omega) (allOne_ok hv h1)
      have hrr := hR.turn (b := b) (e := e) (x := .cells l sh) (y := .cells l' sh) (o := .cells cur' t (lo, hi)) hm hb hal (by intro hc; cases hc; exact hro rfl) rfl ?_
      · exact ⟨_, r1, hrr.1, hrr.2⟩
      · intro _
        have hc := (hR.lt b e hm).2
        refine ⟨cur', t, lo, hi, setObjW_same hc, by omega, by omega, k4.imp id (fun h => ⟨h.1, by omega⟩), fun i x hx => ?_⟩
        rw [g3] at hx
        rw [r3]
        by_cases hi' : off ≤ i ∧ i < off + vs.length
        · rw [if_pos hi'] at hx
          rw [if_pos (by omega)]
          obtain ⟨z, z1, z2⟩ := hv.get hx
          exact ⟨z, by rw [show e.s + i - (e.s + off + 0) = i - off from by omega]; exact z1, z2⟩
        · rw [if_neg hi'] at hx
          rw [if_neg (by omega)]
          exact k5 i x hx
    split at h
    · rename_i h1 h3
      split at h
      · rename_i l' hl'; cases h; exact main l' (by assumption) (by simp) (by assumption) hl'
      · cases h
    · rename_i h1 h3
      split at h
      · rename_i l' hl'; cases h; exact main l' (by assumption) (by simp) (by assumption) hl'
      · cases h
    · rename_i f h1 h3
      split at h
      · rename_i l' hl'; cases h; exact main l' (by assumption) (by simp) (by assumption) hl'
      · cases h
    · cases h
  · cases h
theorem store_ok (hR : R aw w m base) (hfr : FR m N fr act.tmps) {t : TypeId} {x v : Operand} {a c : Opd} {n : Nat} (ho : o.op = .store t x v) (hx : cOpd x = some a) (hc : cOpd v = some c) (hs : sizeOf? P t = some n)
    {b off : Nat} {vv : V} (h1 : a.ev fr = some (.ptr b off)) (h2 : c.ev fr = some vv) (h3 : vv.cells.length = n) (h4 : aw.store b off vv.cells = some aw') : OpOK P o act aw aw' w m base .skip := by
  obtain ⟨e, hm, e1⟩ := cOpd_ok hfr hx h1
  have hv := (cOpd_ok hfr hc h2).cells
  obtain ⟨w', k1, k2, k3⟩ := store_run (P := P) hR hm hv h4
  have hsz : (act.eval v).cells.size = n := by have := hv.length; simpa [h3] using this
  refine ⟨w', m, ?_, k2, k3⟩
  simp [execOp, ho, e1, Instr.storeAt, Instr.sureAddr, storeVar, run_sizeOf hs, hsz, k1]

/-! ### New rows -/
theorem fresh_run (hR : R aw w m base) {l : List V} {cs : Array Value} {t : TypeId} {lo hi : Nat} (hlh : lo = hi) (hc : CR m l 0 cs) (hl : l.length ≤ cs.size) :
    R (aw.fresh l) (w.alloc (.cells cs t (lo, hi))) (m.set aw.next ⟨w.heap.size, 0, cs.size⟩) base ∧ Goes aw (aw.fresh l) w (w.alloc (.cells cs t (lo, hi))) m (m.set aw.next ⟨w.heap.size, 0, cs.size⟩) := by
  have hnone : m aw.next = none := by
    cases h : m aw.next with
    | none => rfl
    | some e => exact absurd (hR.lt _ _ h).1 (by omega)
  refine hR.new (.cells l .own) _ cs.size rfl ?_
  intro _
  exact ⟨cs, t, lo, hi, heap_new w _, rfl, by simpa using hl, .inl hlh, hc.mono (Map.le_set hnone)⟩
theorem freshLax_run (hR : R aw w m base) {l : List V} {cs : Array Value} {t : TypeId} {lo hi : Nat} (hlh : lo = hi ∨ cs.size ≤ lo) (hc : CR m l 0 cs) (hl : l.length ≤ cs.size) :
    R (aw.freshLax l) (w.alloc (.cells cs t (lo, hi))) (m.set aw.next ⟨w.heap.size, 0, cs.size⟩) base ∧ Goes aw (aw.freshLax l) w (w.alloc (.cells cs t (lo, hi))) m (m.set aw.next ⟨w.heap.size, 0, cs.size⟩) := by
  have hnone : m aw.next = none := by
    cases h : m aw.next with
    | none => rfl
    | some e => exact absurd (hR.lt _ _ h).1 (by omega)
  refine hR.new (.cells l .lax) _ cs.size rfl ?_
  intro _
  exact ⟨cs, t, lo, hi, heap_new w _, rfl, by simpa using hl, hlh.imp id (fun h => ⟨by simp, h⟩), hc.mono (Map.le_set hnone)⟩
theorem VRs.CR {l : List V} {cs : Array Value} (h : VRs m l cs.toList) : CR m l 0 cs := fun i x hx => by
  obtain ⟨y, y1, y2⟩ := h.get hx
  exact ⟨y, by simpa using y1, y2⟩
theorem next_none (hR : R aw w m base) : m aw.next = none := by
  cases h : m aw.next with
  | none => rfl
  | some e => exact absurd (hR.lt _ _ h).1 (by omega)
theorem alloc_ok (hR : R aw w m base) {t : TypeId} {z : V} (ho : o.op = .alloc t) (hz : zeroOf P t = some z) : OpOK P o act aw (aw.fresh z.cells) w m base (.val (.ptr aw.next 0)) := by
  obtain ⟨z', hz1, hz2⟩ := zero_ok (P := P) (w := w) (m := m) hz
  obtain ⟨r1, r2⟩ := fresh_run hR (t := t) (lo := 0) (hi := 0) rfl hz2.cells.CR (by have := hz2.cells.length; simp at this; omega)
  refine ⟨.pointer (some ⟨w.heap.size, 0, none⟩), _, _, ?_, ⟨_, Map.set_same _ _ _, rfl⟩, r1, r2⟩
  simp [execOp, ho, Instr.alloc, hz1, newVar, newRow]
theorem box_ok (hR : R aw w m base) (hfr : FR m N fr act.tmps) {t : TypeId} {x : Operand} {a : Opd} (ho : o.op = .box t x) (hx : cOpd x = some a) {v : V} (h1 : a.ev fr = some v) :
    OpOK P o act aw (aw.fresh v.cells) w m base (.val (.ptr aw.next 0)) := by
  have hv := (cOpd_ok hfr hx h1).cells
  obtain ⟨r1, r2⟩ := fresh_run hR (t := t) (lo := 0) (hi := 0) rfl hv.CR (by have := hv.length; simp at this; omega)
  refine ⟨.pointer (some ⟨w.heap.size, 0, none⟩), _, _, ?_, ⟨_, Map.set_same _ _ _, rfl⟩, r1, r2⟩
  simp [execOp, ho, Instr.box, newVar, newRow]
theorem rep_get (l : List V) : ∀ (n i : Nat), ((List.replicate n l).flatten)[i]? = if i < n * l.length then l[i % l.length]? else none
  | 0, i => by simp
  | n + 1, i => by
    rw [List.replicate_succ, List.flatten_cons, List.getElem?_append]
    have hs : (n + 1) * l.length = n * l.length + l.length := Nat.succ_mul ..
    split
    · rename_i h
      rw [if_pos (by omega), Nat.mod_eq_of_lt h]
    · rename_i h
      rw [rep_get l n]
      have : i % l.length = (i - l.length) % l.length := by rw [Nat.mod_eq_sub_mod (by omega)]
      rw [this]
      by_cases h2 : i - l.length < n * l.length
      · rw [if_pos h2, if_pos (by omega)]
      · rw [if_neg h2, if_neg (by omega)]
theorem rep_length (l : List V) (n : Nat) : ((List.replicate n l).flatten).length = n * l.length := by simp
/-- rows of zero values, as the model lays them. -/
theorem rep_VRs {l : List V} {z : Array Value} (h : VRs m l z.toList) (n k : Nat) (hk : k = n * l.length) : VRs m (List.replicate n l).flatten ((Array.range k).map (fun i => z[i % z.size]!)).toList := by
  have hl := h.length
  simp only [Array.length_toList] at hl
  refine VRs.of_get (by simp [hk]) (fun i x y hx hy => ?_)
  rw [rep_get] at hx
  split at hx
  · rename_i hi
    obtain ⟨u, u1, u2⟩ := h.get hx
    simp only [Array.getElem?_toList] at u1
    simp only [Array.getElem?_toList, Array.getElem?_map, Array.getElem?_range, Option.map_eq_some_iff] at hy
    obtain ⟨q, hq, rfl⟩ := hy
    split at hq
    · cases hq
      rw [getElem!_def, hl, u1]
      exact u2
    · cases hq
  · cases hx
theorem buildSlice_ok (hR : R aw w m base) (hfr : FR m N fr act.tmps) {t el : TypeId} {len : Nat} {parts : Array (Nat × Operand)} {i : TypeInfo} {zs : List V} {r : List (Nat × Nat × Opd)} (ho : o.op = .buildSlice t len parts)
    (hu : P.underlying t = some (.slice el)) (hi : P.info? el = some i) (hmax : len * i.size ≤ 16777216)
    (hz : (len * i.size = 0 ∧ zs = []) ∨ (len * i.size ≠ 0 ∧ ∃ z, zeroOf P el = some z ∧ z.cells.length = i.size ∧ zs = (List.replicate len z.cells).flatten))
    (hc : cParts (fun j => some (j * i.size, i.size)) parts.toList = some r) {ps : List (Nat × Nat × V)} {l : List V} (h1 : evParts fr r = some ps) (h2 : fillV zs ps = some l) :
    OpOK P o act aw (aw.fresh l) w m base (.val (.slice aw.next 0 len (.known len))) := by
  have e : (parts.map fun p => (p.1, act.eval p.2)).toList = parts.toList.map fun p => (p.1, act.eval p.2) := by simp
  have hs : (sizeOf el).run P w = .ok i.size w := by simp [sizeOf, typeInfo, hi]
  rcases hz with ⟨h0, rfl⟩ | ⟨h0, z, hz, hzl, rfl⟩
  · obtain ⟨cs', k1, k2⟩ := fill_ok (cs := #[]) hfr hc h1 h2 rfl
    obtain ⟨r1, r2⟩ := fresh_run hR (t := el) (lo := 0) (hi := 0) rfl k2.CR (by have := k2.length; simp at this; omega)
    refine ⟨.slice (some ⟨w.heap.size, 0, none⟩) len len, _, _, ?_, ⟨_, Map.set_same _ _ _, rfl⟩, r1, r2⟩
    have hmax' : ¬ (len * i.size > 2 ^ 24) := by omega
    simp only [execOp, ho, Instr.buildSlice, Sem.run_bind, run_underlying hu, Result.andThen_ok, hs, if_neg hmax', if_pos h0, Sem.run_pure, e]
    have e2 : (Array.range (len * i.size)).map (fun x => (#[] : Array Value)[x % (#[] : Array Value).size]!) = #[] := by rw [h0]; simp
    rw [e2, k1]
    simp [newRow]
  · obtain ⟨z', hz1, hz2⟩ := zero_ok (P := P) (w := w) (m := m) hz
    have hv := rep_VRs hz2.cells len (len * i.size) (by rw [hzl])
    obtain ⟨cs', k1, k2⟩ := fill_ok hfr hc h1 h2 hv
    obtain ⟨r1, r2⟩ := fresh_run hR (t := el) (lo := 0) (hi := 0) rfl k2.CR (by have := k2.length; simp at this; omega)
    refine ⟨.slice (some ⟨w.heap.size, 0, none⟩) len len, _, _, ?_, ⟨_, Map.set_same _ _ _, rfl⟩, r1, r2⟩
    have hmax' : ¬ (len * i.size > 2 ^ 24) := by omega
    simp only [execOp, ho, Instr.buildSlice, Sem.run_bind, run_underlying hu, Result.andThen_ok, hs, if_neg hmax', if_neg h0, Sem.run_pure, e, hz1]
    rw [k1]
    simp [newRow]
end
end Go.AE
