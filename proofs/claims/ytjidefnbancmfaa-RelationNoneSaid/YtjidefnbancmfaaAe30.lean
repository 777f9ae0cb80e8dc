/- AE, part 30: an element pushed into a slice's midst (slices.Insert, elements of one cell), out of what the library's text does: in place, or in a new row. -/
import Derived.Test.YtjidefnbancmfaaAe29
import Derived.Laws.IdiomCopy
set_option linter.unusedVariables false
set_option linter.unusedSimpArgs false
namespace Go.AE

theorem setCells_obj (c : Nat) (t : TypeId) (fz : Nat × Nat) : ∀ (vs : List Value) (o : Nat) (cur : Array Value) (w : World), w.heap[c]? = some (.cells cur t fz) → o + vs.length ≤ cur.size →
    ∃ cur' : Array Value, w.setCells c o vs = setObjW w c (.cells cur' t fz) ∧ cur'.size = cur.size ∧ ∀ j, cur'[j]? = if o ≤ j ∧ j < o + vs.length then vs[j - o]? else cur[j]?
  | [], o, cur, w, hg, _ => by
    refine ⟨cur, ?_, rfl, fun j => ?_⟩
    · rw [setObj_self hg]; rfl
    · rw [if_neg (by simp)]
  | v :: vs, o, cur, w, hg, hl => by
    simp only [List.length_cons] at hl
    have hc : c < w.heap.size := (Array.getElem?_eq_some_iff.1 hg).1
    have hone : w.setCell ⟨c, o, none⟩ v = setObjW w c (.cells (cur.setIfInBounds o v) t fz) := setCell_obj hg
    obtain ⟨cur', k1, k2, k3⟩ := setCells_obj c t fz vs (o + 1) (cur.setIfInBounds o v) (setObjW w c (.cells (cur.setIfInBounds o v) t fz)) (setObjW_same hc) (by simp; omega)
    refine ⟨cur', ?_, by simpa using k2, fun j => ?_⟩
    · simp only [World.setCells, hone, k1, setObj_twice]
    · rw [k3 j]
      simp only [List.length_cons]
      by_cases c1 : o + 1 ≤ j ∧ j < o + 1 + vs.length
      · rw [if_pos c1, if_pos (by omega)]
        have : j - o = (j - (o + 1)) + 1 := by omega
        rw [this, List.getElem?_cons_succ]
      · rw [if_neg c1]
        by_cases c2 : j = o
        · subst c2
          rw [if_pos (by omega)]
          simp [show j < cur.size by omega]
        · rw [if_neg (by omega), Array.getElem?_setIfInBounds_ne (by omega)]

def InsShift (P : Program) (f : Nat) : Prop := ∀ (b off n c i vb voff m vc : Nat) (cs vs : List Value) (w : World), i < n → 0 < m → n + m ≤ c → n + m ≤ 9223372036854775807 → vb ≠ b →
  cs.length = n → vs.length = m → (∀ j v, cs[j]? = some v → w.cell? ⟨b, off + j, none⟩ = some v) → (∀ j, j < n + m → (w.cell? ⟨b, off + j, none⟩).isSome = true) → (∀ j, j < n + m → w.frozen? ⟨b, off + j, none⟩ = false) →
  (∀ j v, vs[j]? = some v → w.cell? ⟨vb, voff + j, none⟩ = some v) → (∀ v ∈ cs, v.oneCell' = true) → (∀ v ∈ vs, v.oneCell' = true) →
  ∀ (tA tB : TypeId) (kA kB : Nat), w.shape? vb = some (tA, kA) → w.shape? b = some (tB, kB) → kB ≠ 0 → w.frozen? ⟨vb, voff, none⟩ = false → w.frozen? ⟨vb, kA, none⟩ = false →
  Calls P f #[.slice (some ⟨b, off, none⟩) n c, .int .i64 i, .slice (some ⟨vb, voff, none⟩) m vc] w fun e w' =>
    e = .returned (.slice (some ⟨b, off, none⟩) (n + m) c) ∧ w' = (w.drew.setCells b (off + (i + m)) (cs.drop i)).setCells b (off + i) vs
def InsGrow (P : Program) (f : Nat) (te : TypeId) (zero : Value) (bytes : Nat) : Prop := ∀ (b off n c i vb voff m vc : Nat) (cs vs : List Value) (w : World), i < n → 0 < m → n ≤ c → c < n + m → (n + m) * bytes ≤ 140737488355328 →
  cs.length = n → vs.length = m → (∀ j v, cs[j]? = some v → w.cell? ⟨b, off + j, none⟩ = some v) →
  (∀ j v, vs[j]? = some v → w.cell? ⟨vb, voff + j, none⟩ = some v) → (∀ v ∈ cs, v.oneCell' = true) → (∀ v ∈ vs, v.oneCell' = true) →
  Calls P f #[.slice (some ⟨b, off, none⟩) n c, .int .i64 i, .slice (some ⟨vb, voff, none⟩) m vc] w fun e w' =>
    e = .returned (.slice (some ⟨w.heap.size, 0, none⟩) (n + m) (grownCap w (n + m) c te)) ∧
    w' = (((w.alloc (.cells ((cs.take i).toArray ++ Builtin.zeroCells zero.cells (n + m - i) ++ Builtin.zeroCells zero.cells (grownCap w (n + m) c te - (n + m))) te)).drew.setCells w.heap.size i vs).drew).setCells w.heap.size (i + m) (cs.drop i)

/-- the slice behind it, of a block that is one of a family's. -/
def AW.insFam (aw : AW) (b : Nat) (n k : Nat) (l2 : List V) : Option (V × AW) :=
  match aw.heap.get b with
  | some (.cells _ (.fam f)) => some (.slice aw.next 0 (n + k) (.upTo 1), aw.reborn f l2)
  | _ => none
def insPrim (bytes : Nat) (args : List V) (aw : AW) : Option (V × AW) :=
  match args with
  | [.slice b off n (.upTo 1), .int .i64 (.ofNat i), .slice bv ov k (.known _)] =>
    match Nat.blt i n, Nat.blt 0 k, Nat.ble ((n + k) * bytes) 70368744177664, Nat.ble (n + k) 70368744177664, Nat.beq bv b with
    | true, true, true, true, false => match aw.heap.get bv, aw.load bv ov k, aw.load b off n with
      | some (.cells _ .own), some vs, some cs => match allOne vs, allOne cs with
        | true, true => match aw.heap.get b with
          | some (.cells _ (.fam _)) => aw.insFam b n k (cs.take i ++ vs ++ cs.drop i)
          | some (.cells l .own) => match (aw.found b l).alive b (.fam aw.next) with
            | true => (aw.found b l).insFam b n k (cs.take i ++ vs ++ cs.drop i)
            | false => none
          | some (.cells l .lax) => match (aw.found b l).alive b (.fam aw.next) with
            | true => (aw.found b l).insFam b n k (cs.take i ++ vs ++ cs.drop i)
            | false => none
          | _ => none
        | _, _ => none
      | _, _, _ => none
    | _, _, _, _, _ => none
  | _ => none

theorem size_setObjW (w : World) (c : Nat) (o : Obj) : (setObjW w c o).heap.size = w.heap.size := by simp [setObjW]
theorem cell_of {w : World} {c o : Nat} {cur : Array Value} {t : TypeId} {fz : Nat × Nat} (h : w.heap[c]? = some (.cells cur t fz)) : w.cell? ⟨c, o, none⟩ = cur[o]? := by
  simp [World.cell?, h]
theorem frozen_of {w : World} {c o : Nat} {cur : Array Value} {t : TypeId} {lo hi : Nat} (h : w.heap[c]? = some (.cells cur t (lo, hi))) (hf : lo = hi ∨ o < lo) : w.frozen? ⟨c, o, none⟩ = false := by
  simp only [World.frozen?, h, Bool.and_eq_false_iff, decide_eq_false_iff_not]
  omega
section
variable {P : Program} {f : Nat} {te : TypeId} {zero : Value} {bytes : Nat} {aw : AW} {w : World} {m : Map} {base : Nat}
theorem mid_get {ys zs : List Value} {i j : Nat} (hi : i ≤ ys.length) : (ys.take i ++ zs ++ ys.drop i)[j]? = if j < i then ys[j]? else if j < i + zs.length then zs[j - i]? else ys[j - zs.length]? := by
  have ht : (ys.take i).length = i := by rw [List.length_take]; omega
  by_cases h1 : j < i
  · rw [if_pos h1, List.append_assoc, List.getElem?_append_left (by omega), List.getElem?_take, if_pos h1]
  · rw [if_neg h1]
    by_cases h2 : j < i + zs.length
    · rw [if_pos h2, List.append_assoc, List.getElem?_append_right (by omega), ht, List.getElem?_append_left (by omega)]
    · rw [if_neg h2, List.getElem?_append_right (by simp; omega), List.getElem?_drop]
      congr 1
      simp
      omega
theorem ins_core (hs : InsShift P f) (hg : InsGrow P f te zero bytes) (hz : zero.cells.size = 1) (hR : R aw w m base) {b bv off n i ov k cp vc g : Nat} {e ev : Emb} {l lv vs cs : List V}
    (hin : i < n) (hk : 0 < k) (hb1 : (n + k) * bytes ≤ 70368744177664) (hb2 : n + k ≤ 70368744177664) (hne : bv ≠ b)
    (hm : m b = some e) (hx : aw.heap.get b = some (.cells l (.fam g))) (hal : aw.alive b (.fam g) = true) (hmv : m bv = some ev) (hxv : aw.heap.get bv = some (.cells lv .own))
    (hv : aw.load bv ov k = some vs) (hc : aw.load b off n = some cs) (h1 : allOne vs = true) (h2 : allOne cs = true) (hcp : n ≤ cp) (htot : e.s + off + cp = e.tot) :
    Calls P f #[.slice (some ⟨e.c, e.s + off, none⟩) n cp, .int .i64 i, .slice (some ⟨ev.c, ev.s + ov, none⟩) k vc] w fun r w' =>
      ∃ v' m', r = .returned v' ∧ VR m' (.slice aw.next 0 (n + k) (.upTo 1)) v' ∧ R (aw.reborn g (cs.take i ++ vs ++ cs.drop i)) w' m' base ∧ Goes aw (aw.reborn g (cs.take i ++ vs ++ cs.drop i)) w w' m m' := by
  obtain ⟨ys, y1, y2, y3⟩ := load_cells hR hm hc
  obtain ⟨zs, z1, z2, z3⟩ := load_cells hR hmv hv
  obtain ⟨cur, t, lo, hi, p1, p2, p3, p4, p5⟩ := hR.blk b e _ hm hx hal
  obtain ⟨curv, tv, lov, hiv, q1, q2, q3, q4, q5⟩ := hR.blk bv ev _ hmv hxv rfl
  have hlv : lov = hiv := q4.elim id (fun h => absurd rfl h.1)
  have hlt := hR.lt b e hm
  have hnone := next_none hR
  have hec : ev.c ≠ e.c := fun hec => by
    have := hR.apart bv ev _ b e _ hmv hxv hm hx rfl hal hne hec
    simp [Blk.mates] at this
  have ycur : ∀ j v, ys[j]? = some v → cur[e.s + off + j]? = some v := fun j v hj => by
    have := y3 j v hj
    rwa [Addr.add_lit, cell_of p1] at this
  have hcl : cs.length = n := by have := y2.length; omega
  have hvl : vs.length = k := by have := z2.length; omega
  have hl2 : (cs.take i ++ vs ++ cs.drop i).length = n + k := by simp; omega
  have hVR : VRs m (cs.take i ++ vs ++ cs.drop i) (ys.take i ++ zs ++ ys.drop i) := (y2.take.append z2).append y2.drop
  have o1 := allOne_ok y2 h2
  have o2 := allOne_ok z2 h1
  by_cases hroom : n + k ≤ cp
  · refine (hs e.c (e.s + off) n cp i ev.c (ev.s + ov) k vc ys zs w hin hk hroom (by omega) hec y1 z1 (fun j v hj => by rw [cell_of p1]; exact ycur j v hj) (fun j hj => by rw [cell_of p1, Array.getElem?_eq_getElem (by omega)]; rfl)
      (fun j hj => frozen_of p1 (p4.imp id (fun h => by omega))) (fun j v hj => by have := z3 j v hj; rwa [Addr.add_lit] at this) o1 o2 tv t curv.size cur.size (by simp [World.shape?, q1]) (by simp [World.shape?, p1]) (by omega)
      (frozen_of q1 (.inl hlv)) (frozen_of q1 (.inl hlv))).mono ?_
    rintro r w' ⟨rfl, rfl⟩
    have hdl : (ys.drop i).length = n - i := by rw [List.length_drop, y1]
    obtain ⟨cur1, a1, a2, a3⟩ := setCells_obj e.c t (lo, hi) (ys.drop i) (e.s + off + (i + k)) cur w.drew p1 (by omega)
    obtain ⟨cur2, b1, b2, b3⟩ := setCells_obj e.c t (lo, hi) zs (e.s + off + i) cur1 (setObjW w.drew e.c (.cells cur1 t (lo, hi))) (setObjW_same hlt.2) (by omega)
    rw [a1, b1, setObj_twice]
    have hre := hR.reborn (w' := setObjW w.drew e.c (.cells cur2 t (lo, hi))) (en := ⟨e.c, e.s + off, e.tot⟩) (l2 := cs.take i ++ vs ++ cs.drop i) hm hx hal (by rw [size_setObjW]; exact Nat.le_refl _) (by rw [size_setObjW]; exact hlt.2) rfl rfl rfl (.inl rfl)
      (fun c hc hne => by rw [setObjW_ne hne]; rfl) (by
        intro _
        refine ⟨cur2, t, lo, hi, setObjW_same hlt.2, by show cur2.size = e.tot; omega, by rw [hl2]; show e.s + off + (n + k) ≤ e.tot; omega, p4.imp id (fun h => ⟨by simp, by omega⟩), fun j x hj => ?_⟩
        obtain ⟨y, k1, k2⟩ := hVR.get hj
        refine ⟨y, ?_, k2.mono (Map.le_set hnone)⟩
        rw [mid_get (by omega)] at k1
        show cur2[e.s + off + j]? = some y
        rw [b3, a3]
        by_cases c1 : j < i
        · rw [if_pos c1] at k1
          rw [if_neg (by omega), if_neg (by omega)]
          exact ycur j y k1
        · rw [if_neg c1] at k1
          by_cases c2 : j < i + zs.length
          · rw [if_pos c2] at k1
            rw [if_pos (by omega), show e.s + off + j - (e.s + off + i) = j - i from by omega]
            exact k1
          · rw [if_neg c2] at k1
            have hjl : j < n + k := by have := (List.getElem?_eq_some_iff.1 hj).1; omega
            rw [if_neg (by omega), if_pos (by omega), List.getElem?_drop, show i + (e.s + off + j - (e.s + off + (i + k))) = j - zs.length from by omega]
            exact k1)
    exact ⟨_, _, rfl, ⟨_, Map.set_same _ _ _, _, _, rfl, hroom, .inl ⟨rfl, by show e.s + off + 0 + cp * 1 = e.tot; omega⟩⟩, hre.1, hre.2⟩
  · refine (hg e.c (e.s + off) n cp i ev.c (ev.s + ov) k vc ys zs w hin hk hcp (by omega) (by omega) y1 z1 (fun j v hj => by rw [cell_of p1]; exact ycur j v hj) (fun j v hj => by have := z3 j v hj; rwa [Addr.add_lit] at this) o1 o2).mono ?_
    rintro r w' ⟨rfl, rfl⟩
    have hdl : (ys.drop i).length = n - i := by rw [List.length_drop, y1]
    have hge := grownCap_ge w (n + k) cp te
    generalize grownCap w (n + k) cp te = G at hge ⊢
    have hrow : ((ys.take i).toArray ++ Builtin.zeroCells zero.cells (n + k - i) ++ Builtin.zeroCells zero.cells (G - (n + k))).size = G := by
      simp only [Array.size_append, size_zero, hz, List.size_toArray, List.length_take]
      omega
    have hfront : ∀ j, j < i → ((ys.take i).toArray ++ Builtin.zeroCells zero.cells (n + k - i) ++ Builtin.zeroCells zero.cells (G - (n + k)))[j]? = ys[j]? := fun j hj => by
      have ht : (ys.take i).length = i := by rw [List.length_take]; omega
      rw [Array.append_assoc, Array.getElem?_append_left (by simp; omega), List.getElem?_toArray, List.getElem?_take, if_pos hj]
    generalize ((ys.take i).toArray ++ Builtin.zeroCells zero.cells (n + k - i) ++ Builtin.zeroCells zero.cells (G - (n + k))) = row at hrow hfront ⊢
    have hW : (w.alloc (.cells row te)).heap[w.heap.size]? = some (.cells row te (0, 0)) := heap_new w _
    obtain ⟨cur1, a1, a2, a3⟩ := setCells_obj w.heap.size te (0, 0) zs i row (w.alloc (.cells row te)).drew hW (by omega)
    have hH : w.heap.size < (w.alloc (.cells row te)).heap.size := by show w.heap.size < (w.heap.push _).size; simp
    obtain ⟨cur2, b1, b2, b3⟩ := setCells_obj w.heap.size te (0, 0) (ys.drop i) (i + k) cur1 (setObjW (w.alloc (.cells row te)).drew w.heap.size (.cells cur1 te (0, 0))).drew (setObjW_same hH) (by omega)
    rw [a1, b1]
    have hre := hR.reborn (w' := setObjW (setObjW (w.alloc (.cells row te)).drew w.heap.size (.cells cur1 te (0, 0))).drew w.heap.size (.cells cur2 te (0, 0))) (en := ⟨w.heap.size, 0, G⟩) (l2 := cs.take i ++ vs ++ cs.drop i) hm hx hal
      (by rw [size_setObjW]; show _ ≤ (setObjW (w.alloc (.cells row te)).drew w.heap.size (.cells cur1 te (0, 0))).heap.size; rw [size_setObjW]; exact Nat.le_of_lt hH) (by rw [size_setObjW]; show _ < (setObjW (w.alloc (.cells row te)).drew w.heap.size (.cells cur1 te (0, 0))).heap.size; rw [size_setObjW]; exact hH) rfl rfl rfl (.inr (Nat.le_refl _))
      (fun c hc hne => by
        rw [setObjW_ne (by omega)]
        show (setObjW (w.alloc (.cells row te)).drew w.heap.size (.cells cur1 te (0, 0))).heap[c]? = _
        rw [setObjW_ne (by omega)]
        exact heap_old w _ hc) (by
        intro _
        refine ⟨cur2, te, 0, 0, setObjW_same (by show _ < (setObjW (w.alloc (.cells row te)).drew w.heap.size (.cells cur1 te (0, 0))).heap.size; rw [size_setObjW]; exact hH), by show cur2.size = G; omega, by rw [hl2]; show 0 + (n + k) ≤ G; omega, .inl rfl, fun j x hj => ?_⟩
        obtain ⟨y, k1, k2⟩ := hVR.get hj
        refine ⟨y, ?_, k2.mono (Map.le_set hnone)⟩
        rw [mid_get (by omega)] at k1
        show cur2[0 + j]? = some y
        rw [Nat.zero_add, b3, a3]
        by_cases c1 : j < i
        · rw [if_pos c1] at k1
          rw [if_neg (by omega), if_neg (by omega), hfront j c1]
          exact k1
        · rw [if_neg c1] at k1
          by_cases c2 : j < i + zs.length
          · rw [if_pos c2] at k1
            rw [if_neg (by omega), if_pos (by omega)]
            exact k1
          · rw [if_neg c2] at k1
            have hjl : j < n + k := by have := (List.getElem?_eq_some_iff.1 hj).1; omega
            rw [if_pos (by omega), List.getElem?_drop, show i + (j - (i + k)) = j - zs.length from by omega]
            exact k1)
    exact ⟨_, _, rfl, ⟨_, Map.set_same _ _ _, _, _, rfl, hge, .inl ⟨rfl, by show 0 + 0 + G * 1 = G; omega⟩⟩, hre.1, hre.2⟩
theorem insFam_ok (hs : InsShift P f) (hg : InsGrow P f te zero bytes) (hz : zero.cells.size = 1) (hR : R aw w m base) {b bv off n i ov k vc : Nat} {lv vs cs : List V}
    (hin : i < n) (hk : 0 < k) (hb1 : (n + k) * bytes ≤ 70368744177664) (hb2 : n + k ≤ 70368744177664) (hne : bv ≠ b) (hxv : aw.heap.get bv = some (.cells lv .own))
    (hv : aw.load bv ov k = some vs) (hc : aw.load b off n = some cs) (h1 : allOne vs = true) (h2 : allOne cs = true) {x y : Value} (hx' : VR m (.slice b off n (.upTo 1)) x) (hy' : VR m (.slice bv ov k (.known vc)) y)
    {v : V} {aw' : AW} (h : aw.insFam b n k (cs.take i ++ vs ++ cs.drop i) = some (v, aw')) :
    Calls P f #[x, .int .i64 i, y] w fun r w' => ∃ v' m', r = .returned v' ∧ VR m' v v' ∧ R aw' w' m' base ∧ Goes aw aw' w w' m m' := by
  unfold AW.insFam at h
  split at h
  · rename_i l g hx
    cases h
    obtain ⟨e, hm, ad, cp, rfl, hcp, hcase⟩ := hx'
    obtain ⟨ev, hmv, rfl⟩ := hy'
    have hal : aw.alive b (.fam g) = true := by
      unfold AW.load at hc
      rw [hx] at hc
      simp only [] at hc
      split at hc
      · assumption
      · cases hc
    rcases hcase with ⟨rfl, htot⟩ | h0
    · exact ins_core hs hg hz hR hin hk hb1 hb2 hne hm hx hal hmv hxv hv hc h1 h2 hcp (by omega)
    · omega
  · cases h
theorem insPrim_ok (hs : InsShift P f) (hg : InsGrow P f te zero bytes) (hz : zero.cells.size = 1) {args : List V} {v : V} {aw' : AW} (h : insPrim bytes args aw = some (v, aw')) (w : World) (m : Map) (base : Nat) (args' : Array Value) (hR : R aw w m base) (hargs : VRs m args args'.toList) :
    Calls P f args' w fun r w' => ∃ v' m', r = .returned v' ∧ VR m' v v' ∧ R aw' w' m' base ∧ Goes aw aw' w w' m m' := by
  unfold insPrim at h
  split at h
  · rename_i b off n i bv ov k vc
    obtain ⟨x, r1, e1, hx', y1, r2, rfl, e2, y, r3, rfl, hy', rfl⟩ := hargs
    obtain rfl : y1 = .int .i64 (.ofNat i) := e2
    obtain rfl : args' = #[x, .int .i64 (.ofNat i), y] := by cases args'; simp_all
    split at h
    · rename_i c1 c2 c3 c4 c5
      have d1 : i < n := Nat.blt_eq.mp c1
      have d2 : 0 < k := Nat.blt_eq.mp c2
      have d3 := Nat.le_of_ble_eq_true c3
      have d4 := Nat.le_of_ble_eq_true c4
      have d5 : bv ≠ b := fun hh => by rw [hh, Nat.beq_refl] at c5; cases c5
      split at h
      · rename_i lv vs cs hxv hv hc
        split at h
        · rename_i a1 a2
          have lax : ∀ l, aw.heap.get b = some (.cells l .own) ∨ aw.heap.get b = some (.cells l .lax) → (aw.found b l).alive b (.fam aw.next) = true → (aw.found b l).insFam b n k (cs.take i ++ vs ++ cs.drop i) = some (v, aw') →
              Calls P f #[x, .int .i64 (.ofNat i), y] w fun r w' => ∃ v' m', r = .returned v' ∧ VR m' v v' ∧ R aw' w' m' base ∧ Goes aw aw' w w' m m' := by
            intro l hl halive h
            obtain ⟨e, hm, _⟩ := id hx'
            obtain ⟨f1, f2⟩ : R (aw.found b l) w m base ∧ Goes aw (aw.found b l) w w m m := by
              rcases hl with hl | hl
              · exact hR.found hm hl
              · exact hR.foundLax hm hl
            have hlt := (hR.lt b e hm).1
            have hxv' : (aw.found b l).heap.get bv = some (.cells lv .own) := by simp only [AW.found]; rw [T.get_put_ne d5]; exact hxv
            have hb' : (aw.found b l).heap.get b = some (.cells l (.fam aw.next)) := by
              unfold AW.insFam at h
              split at h
              · rename_i l' g hg'
                rcases T.get_put hg' with ⟨_, hh⟩ | ⟨hh, _⟩
                · rw [hg']; cases hh; rfl
                · exact absurd rfl hh
              · cases h
            have hcap : aw.heap.get b = some (.cells l .own) ∨ aw.heap.get b = some (.cells l .lax) := hl
            have hv' : (aw.found b l).load bv ov k = some vs := by
              unfold AW.load at hv ⊢
              rw [hxv] at hv; rw [hxv']
              exact hv
            have hc' : (aw.found b l).load b off n = some cs := by
              unfold AW.load at hc ⊢
              rw [hb']
              simp only [halive]
              rcases hl with hl | hl <;> (rw [hl] at hc; exact hc)
            refine (insFam_ok hs hg hz f1 d1 d2 d3 d4 d5 hxv' hv' hc' a1 a2 hx' hy' h).mono ?_
            rintro r w' ⟨v', m', e1, e2, e3, e4⟩
            exact ⟨v', m', e1, e2, e3, Goes.trans hR f2 e4⟩
          split at h
          · exact insFam_ok hs hg hz hR d1 d2 d3 d4 d5 hxv hv hc a1 a2 hx' hy' h
          · rename_i l hl
            split at h
            · rename_i ha; exact lax l (.inl hl) ha h
            · cases h
          · rename_i l hl
            split at h
            · rename_i ha; exact lax l (.inr hl) ha h
            · cases h
          · cases h
        · cases h
      · cases h
    · cases h
  · cases h
end
end Go.AE
