/- AE, part 15: append. -/
import Derived.Test.YtjidefnbancmfaaAe14
set_option linter.unusedVariables false
set_option linter.unusedSimpArgs false
set_option linter.unusedSectionVars false
namespace Go.AE

section
variable {P : Program} {o : Oper} {act : Act} {aw aw' : AW} {w : World} {m : Map} {base N : Nat} {fr : Fr}

theorem size_zero (z : Array Value) (n : Nat) : (Builtin.zeroCells z n).size = n * z.size := by simp [Builtin.zeroCells]
/-- a row that an append has laid. -/
theorem laid_run (hR : R aw w m base) {l : List V} {os ns : Array Value} {z : Value} {t : TypeId} {need cap esz : Nat} (hl : VRs m l (os ++ ns).toList) (hz : z.cells.size = esz) (hsz : (os ++ ns).size = need * esz) (hcap : need ≤ cap) :
    R (aw.fresh l) (w.drew.alloc (.cells (os ++ ns ++ Builtin.zeroCells z.cells (cap - need)) t)) (m.set aw.next ⟨w.heap.size, 0, cap * esz⟩) base ∧
      Goes aw (aw.fresh l) w (w.drew.alloc (.cells (os ++ ns ++ Builtin.zeroCells z.cells (cap - need)) t)) m (m.set aw.next ⟨w.heap.size, 0, cap * esz⟩) := by
  have htot : (os ++ ns ++ Builtin.zeroCells z.cells (cap - need)).size = cap * esz := by
    rw [Array.size_append, hsz, size_zero, hz, ← Nat.add_mul]
    congr 1; omega
  have hc : CR m l 0 (os ++ ns ++ Builtin.zeroCells z.cells (cap - need)) := by
    intro i x hx
    obtain ⟨y, y1, y2⟩ := hl.get hx
    simp only [Array.getElem?_toList] at y1
    have hlt : i < (os ++ ns).size := (Array.getElem?_eq_some_iff.1 y1).1
    refine ⟨y, ?_, y2⟩
    rw [Nat.zero_add, Array.getElem?_append_left hlt]
    exact y1
  have hlen := hl.length
  simp only [Array.length_toList] at hlen
  have hll : l.length ≤ (os ++ ns ++ Builtin.zeroCells z.cells (cap - need)).size := by
    rw [Array.size_append]; omega
  obtain ⟨r1, r2⟩ := fresh_run hR.drew (t := t) (lo := 0) (hi := 0) rfl hc hll
  rw [htot] at r1 r2
  exact ⟨r1, Goes.trans hR (Goes.drew aw w m) r2⟩

/-- an append to a family's block. -/
theorem appendFam_run (hR : R aw w m base) {t u ty e : TypeId} {i : TypeInfo} {d : TypeDesc} {z : Value} (ht : P.underlying t = some (.slice e)) (hu : P.underlying u = some d) (hd : ∀ k, d ≠ .int k) (hi : P.info? e = some i) (hz : i.zero = some z) (hzs : z.cells.size = i.size)
    {b off len k : Nat} {S x : Value} {news : List V} {ns : Array Value} (hs : VR m (.slice b off len (.upTo i.size)) S) (hnl : news.length = k * i.size) (hlen : (Builtin.lenOf x).run P w = .ok k w) (hns : VRs m news ns.toList)
    (hcells : ∀ w1 : World, w1.heap = w.heap → (Builtin.firstCells i.size k x).run P w1 = .ok ns w1) (hk : 0 < k) (h63 : len + k ≤ 70368744177664) (hb : (len + k) * i.bytes ≤ 70368744177664) (hone : allOne news = true)
    {v : V} (h : aw.appendFam i.size b off len k news = some (v, aw')) :
    ∃ v' w' m', (Builtin.append_ #[t, u] ty #[S, x]).run P w = .ok v' w' ∧ VR m' v v' ∧ R aw' w' m' base ∧ Goes aw aw' w w' m m' := by
  unfold AW.appendFam at h
  split at h
  · rename_i l f hbk
    split at h
    · rename_i F hal hF hfront
      cases h
      have hfr : off + len * i.size = l.length := Nat.eq_of_beq_eq_true hfront
      obtain ⟨en, hm, ad, cp, rfl, hle, hcase⟩ := hs
      obtain ⟨cur, tt, lo, hi', p1, p2, p3, p4, p5⟩ := hR.blk b en _ hm hbk hal
      have hblt := hR.lt b en hm
      have hnsz : ns.size = k * i.size := by have := hns.length; simp at this; omega
      have hnone := next_none hR
      by_cases hroom : len + k ≤ cp
      · -- it lies where it lay
        rcases hcase with ⟨rfl, htot⟩ | h0
        · have hfit : (len + k) * i.size ≤ cp * i.size := Nat.mul_le_mul_right _ hroom
          rw [Nat.add_mul] at hfit
          obtain ⟨cur', r1, r2, r3⟩ := run_storeRow (P := P) en.c (en.s + off + len * i.size) tt lo hi' ns.toList 0 cur w p1 (p4.imp id (·.2)) (by simp; omega) (allOne_ok hns hone)
          have hst : (storeCells ((⟨en.c, en.s + off, none⟩ : Addr).add (len * i.size)) ns.toList).run P w = .ok () (setObjW w en.c (.cells cur' tt (lo, hi'))) := by
            rw [Addr.add_lit]; exact r1
          have hrun := run_append_fits' (ty := ty) ht hu hd hi hlen (hcells w rfl) hroom (ba := some ⟨en.c, en.s + off, none⟩) hst
          have hg := hR.grow (F := F) (l2 := l.drop off ++ news) (en := ⟨en.c, en.s + off, en.tot⟩) (w' := setObjW w en.c (.cells cur' tt (lo, hi'))) hm hbk hal hF (by simp [setObjW]) (by simpa [setObjW] using hblt.2) rfl rfl rfl
            (.inl ⟨rfl, by simp; omega, fun c2 t2 lo2 hi2 hc2 => by
              rw [p1] at hc2; cases hc2
              refine ⟨cur', setObjW_same hblt.2, r2, fun j hj => ?_⟩
              rw [r3, if_neg (by omega)]⟩)
            (fun c hc hne => setObjW_ne hne) ?_
          · refine ⟨_, _, _, hrun, ⟨_, Map.set_same _ _ _, _, _, rfl, hroom, .inl ⟨rfl, ?_⟩⟩, hg.1, hg.2⟩
            simp only [Nat.add_zero]; exact htot
          · intro _
            refine ⟨cur', tt, lo, hi', setObjW_same hblt.2, by simpa using r2.trans p2, by simp; omega, p4.imp id (fun h => ⟨by simp, by omega⟩), fun j q hq => ?_⟩
            simp only [] at hq ⊢
            rw [List.getElem?_append] at hq
            split at hq
            · rename_i hj
              simp at hj hq
              obtain ⟨y, y1, y2⟩ := p5 _ _ hq
              refine ⟨y, ?_, y2.mono (Map.le_set hnone)⟩
              rw [r3, if_neg (by omega), show en.s + off + j = en.s + (off + j) from by omega]
              exact y1
            · rename_i hj
              simp at hj hq
              obtain ⟨y, y1, y2⟩ := hns.get hq
              have hjl : j - (l.length - off) < news.length := (List.getElem?_eq_some_iff.1 hq).1
              refine ⟨y, ?_, y2.mono (Map.le_set hnone)⟩
              rw [r3, if_pos (by simp; omega), show en.s + off + j - (en.s + off + len * i.size + 0) = j - (l.length - off) from by omega]
              exact y1
        · omega
      · -- it lies anew
        have hold : ∃ os : Array Value, VRs m (l.drop off) os.toList ∧ os.size = len * i.size ∧ (Builtin.firstCells i.size len (.slice (some ad) len cp)).run P w.drew = .ok os w.drew := by
          rcases hcase with ⟨rfl, htot⟩ | h0
          · have hload : aw.load b off (len * i.size) = some (l.drop off) := by
              simp only [AW.load, hbk, hal]
              have : ∀ (q : List V) (n : Nat), q.length = n → takeN n q = some q := by
                intro q
                induction q with
                | nil => intro n hn; subst hn; rfl
                | cons a q ih => intro n hn; subst hn; simp [takeN, ih _ rfl]
              exact this _ _ (by simp; omega)
            obtain ⟨ys, y1, y2, y3⟩ := load_run (P := P) hR.drew hm hload
            exact ⟨ys.toArray, y2, by simpa using y1, y3⟩
          · have hl0 : len = 0 := by omega
            subst hl0
            refine ⟨#[], ?_, by simp, by simp [Builtin.firstCells, loadCells, loadCellsFrom]⟩
            have : l.drop off = [] := by simp at hfr ⊢; omega
            rw [this]; rfl
        obtain ⟨os, o1, o2, o3⟩ := hold
        have hrun := run_append_grows' (ty := ty) ht hu hd hi hz hlen o3 (hcells w.drew rfl) (by omega) h63 hb (ba := some ad)
        have hge := grownCap_ge w (len + k) cp e
        have hsz : (os ++ ns).size = (len + k) * i.size := by rw [Array.size_append, o2, hnsz, Nat.add_mul]
        have htot : (os ++ ns ++ Builtin.zeroCells z.cells (grownCap w (len + k) cp e - (len + k))).size = grownCap w (len + k) cp e * i.size := by
          rw [Array.size_append, hsz, size_zero, hzs, ← Nat.add_mul]
          congr 1; omega
        have hg := hR.grow (F := F) (l2 := l.drop off ++ news) (en := ⟨w.heap.size, 0, grownCap w (len + k) cp e * i.size⟩) (w' := w.drew.alloc (.cells (os ++ ns ++ Builtin.zeroCells z.cells (grownCap w (len + k) cp e - (len + k))) e)) hm hbk hal hF (by simp) (by simp) rfl rfl rfl
            (.inr ⟨Nat.le_refl _, heap_old w.drew _ hblt.2⟩) (fun c hc hne => heap_old w.drew _ hc) ?_
        · refine ⟨_, _, _, hrun, ⟨_, Map.set_same _ _ _, _, _, rfl, hge, .inl ⟨rfl, by simp⟩⟩, hg.1, hg.2⟩
        · intro _
          refine ⟨_, e, 0, 0, heap_new w.drew _, htot, ?_, .inl rfl, ?_⟩
          · simp only [List.length_append, List.length_drop, Nat.zero_add]
            have := Nat.mul_le_mul_right i.size hge
            rw [Nat.add_mul] at this
            omega
          · intro j q hq
            have hv : VRs m (l.drop off ++ news) (os ++ ns).toList := by simpa using o1.append hns
            obtain ⟨y, y1, y2⟩ := hv.get hq
            simp only [Array.getElem?_toList] at y1
            have hlt : j < (os ++ ns).size := (Array.getElem?_eq_some_iff.1 y1).1
            refine ⟨y, ?_, y2.mono (Map.le_set hnone)⟩
            rw [Nat.zero_add, Array.getElem?_append_left hlt]
            exact y1
    · cases h
  · cases h

theorem elems_len {esz b off len : Nat} {cap : Cap} {n : Nat} {l : List V} (h : aw.elems esz (.slice b off len cap) = some (n, l)) : n = len := by
  cases len with
  | zero => cases h; rfl
  | succ len =>
    have h : (match aw.load b off ((len + 1) * esz) with | some l => some (len + 1, l) | none => none) = some (n, l) := h
    split at h
    · cases h; rfl
    · cases h
section
variable {t u ty e : TypeId} {i : TypeInfo} {d : TypeDesc} {z : Value} (ht : P.underlying t = some (.slice e)) (hu : P.underlying u = some d) (hd : ∀ k, d ≠ .int k) (hi : P.info? e = some i) (hz : i.zero = some z) (hzs : z.cells.size = i.size)
include ht hu hd hi hz hzs
/-- nothing is appended. -/
theorem append0_run (hR : R aw w m base) {s : V} {S x : Value} {ns : Array Value} (hs : VR m s S) (hlen : (Builtin.lenOf x).run P w = .ok 0 w) (hns : ns.size = 0)
    (hcells : (Builtin.firstCells i.size 0 x).run P w = .ok ns w) {ba : Option Addr} {ln cp : Nat} (hS : S = .slice ba ln cp) (hle : ln ≤ cp) :
    ∃ v' w' m', (Builtin.append_ #[t, u] ty #[S, x]).run P w = .ok v' w' ∧ VR m' s v' ∧ R aw w' m' base ∧ Goes aw aw w w' m m' := by
  subst hS
  have hns0 : ns = #[] := Array.eq_empty_of_size_eq_zero hns
  subst hns0
  refine ⟨_, w, m, run_append_fits' (w' := w) (ty := ty) ht hu hd hi hlen hcells (by simpa using hle) ?_, hs, hR, .refl _ _ _⟩
  cases ba <;> rfl
/-- what is appended lies anew, in a block of its own. -/
theorem appendNew_run (hR : R aw w m base) {x : Value} {k : Nat} {ba : Option Addr} {ln cp : Nat} {old news : List V} {os ns : Array Value} (hlen : (Builtin.lenOf x).run P w = .ok k w) (hns : VRs m news ns.toList) (hnl : news.length = k * i.size)
    (hcells : ∀ w1 : World, w1.heap = w.heap → (Builtin.firstCells i.size k x).run P w1 = .ok ns w1) (hos : VRs m old os.toList) (hol : old.length = ln * i.size)
    (hold : ∀ w1 : World, w1.heap = w.heap → (Builtin.firstCells i.size ln (.slice ba ln cp)).run P w1 = .ok os w1) (hno : cp < ln + k) (h63 : ln + k ≤ 70368744177664) (hb : (ln + k) * i.bytes ≤ 70368744177664) :
    ∃ v' w' m', (Builtin.append_ #[t, u] ty #[.slice ba ln cp, x]).run P w = .ok v' w' ∧ VR m' (.slice aw.next 0 (ln + k) (.upTo i.size)) v' ∧ R (aw.fresh (old ++ news)) w' m' base ∧ Goes aw (aw.fresh (old ++ news)) w w' m m' := by
  have hrun := run_append_grows' (ty := ty) ht hu hd hi hz hlen (hold w.drew rfl) (hcells w.drew rfl) hno h63 hb
  have hge := grownCap_ge w (ln + k) cp e
  have q1 := hos.length
  have q2 := hns.length
  simp only [Array.length_toList] at q1 q2
  obtain ⟨r1, r2⟩ := laid_run hR (l := old ++ news) (os := os) (ns := ns) (z := z) (t := e) (need := ln + k) (esz := i.size) (cap := grownCap w (ln + k) cp e) (by simpa using hos.append hns) hzs (by rw [Array.size_append, q1, q2, hol, hnl, Nat.add_mul]) hge
  exact ⟨_, _, _, hrun, ⟨_, Map.set_same _ _ _, _, _, rfl, hge, .inl ⟨rfl, by simp⟩⟩, r1, r2⟩
theorem appendV_run (hR : R aw w m base) {k : Nat} {s : V} {S x : Value} {news : List V} {ns : Array Value} (hs : VR m s S) (hnl : news.length = k * i.size) (hlen : (Builtin.lenOf x).run P w = .ok k w) (hns : VRs m news ns.toList)
    (hcells : ∀ w1 : World, w1.heap = w.heap → (Builtin.firstCells i.size k x).run P w1 = .ok ns w1) {v : V} (h : aw.appendV i.size i.bytes s k news = some (v, aw')) :
    ∃ v' w' m', (Builtin.append_ #[t, u] ty #[S, x]).run P w = .ok v' w' ∧ VR m' v v' ∧ R aw' w' m' base ∧ Goes aw aw' w w' m m' := by
  have hnsz : ns.size = k * i.size := by have := hns.length; simp at this; omega
  cases k with
  | zero =>
    cases s
    case nilslice =>
      cases h; cases hs
      exact append0_run ht hu hd hi hz hzs hR rfl hlen (by simpa using hnsz) (hcells w rfl) rfl (Nat.le_refl 0)
    case slice b off len cap =>
      obtain ⟨en, hm, h2⟩ := id hs
      cases cap with
      | known c =>
        simp only [] at h2
        have h : (if len ≤ c then some (V.slice b off len (.known c), aw) else none) = some (v, aw') := h
        split at h
        · rename_i hle
          cases h
          exact append0_run ht hu hd hi hz hzs hR hs hlen (by simpa using hnsz) (hcells w rfl) h2 hle
        · cases h
      | upTo q =>
        cases h
        obtain ⟨ad, cp, h3, hle, _⟩ := h2
        exact append0_run ht hu hd hi hz hzs hR hs hlen (by simpa using hnsz) (hcells w rfl) h3 hle
    all_goals cases h
  | succ k =>
    cases s
    case nilslice =>
      have h : (if (k + 1) * i.bytes ≤ 70368744177664 ∧ (k + 1) ≤ 70368744177664 then some (V.slice aw.next 0 (k + 1) (.upTo i.size), aw.fresh news) else none) = some (v, aw') := h
      split at h
      · rename_i hc
        cases h; cases hs
        have := appendNew_run (ty := ty) ht hu hd hi hz hzs hR (ba := none) (ln := 0) (cp := 0) (old := []) (os := #[]) hlen hns hnl hcells rfl (by simp) (fun w1 _ => rfl) (by omega) (by omega) (by simpa using hc.1)
        simpa using this
      · cases h
    case slice b off len cap =>
      cases cap with
      | known c =>
        obtain ⟨en, hm, h2⟩ := id hs
        simp only [] at h2
        have h : (if (len + (k + 1)) * i.bytes ≤ 70368744177664 ∧ len + (k + 1) ≤ 70368744177664 ∧ len ≤ c then
            if len + (k + 1) ≤ c then (match aw.store b (off + len * i.size) news with
              | some aw' => some (V.slice b off (len + (k + 1)) (.known c), aw')
              | none => none)
            else match aw.elems i.size (.slice b off len (.known c)) with
              | some (_, old) => some (V.slice aw.next 0 (len + (k + 1)) (.upTo i.size), aw.fresh (old ++ news))
              | none => none
          else none) = some (v, aw') := h
        split at h
        · rename_i hc
          obtain ⟨hc1, hc2, hc3⟩ := hc
          split at h
          · rename_i hroom
            split at h
            · rename_i aw1 hst
              cases h
              subst h2
              obtain ⟨w', k1, k2, k3⟩ := store_run (P := P) hR hm hns hst
              have hst' : (storeCells ((⟨en.c, en.s + off, none⟩ : Addr).add (len * i.size)) ns.toList).run P w = .ok () w' := by
                rw [Addr.add_lit, show en.s + off + len * i.size = en.s + (off + len * i.size) from by omega]; exact k1
              exact ⟨_, _, _, run_append_fits' (ty := ty) ht hu hd hi hlen (hcells w rfl) hroom (ba := some ⟨en.c, en.s + off, none⟩) hst', ⟨en, hm, rfl⟩, k2, k3⟩
            · cases h
          · rename_i hroom
            split at h
            · rename_i n old hold
              cases h
              have hn := elems_len hold
              subst hn
              obtain ⟨q1, q2, os, q3, q4⟩ := elems_run (P := P) hR hs hold
              subst h2
              exact appendNew_run (ty := ty) ht hu hd hi hz hzs hR hlen hns hnl hcells q3 q1 q4 (by omega) hc2 hc1
            · cases h
        · cases h
      | upTo q =>
        have h9 : (if q = i.size ∧ (len + (k + 1)) * i.bytes ≤ 70368744177664 ∧ len + (k + 1) ≤ 70368744177664 ∧ allOne news = true ∧ 0 < i.size then aw.appendUp i.size b off len (k + 1) news else none) = some (v, aw') := h
        clear h
        split at h9
        · rename_i hc
          obtain ⟨rfl, hc1, hc2, hc3, hc4⟩ := hc
          unfold AW.appendUp at h9
          split at h9
          · rename_i l sh hbk
            split at h9
            · split at h9
              · -- own: a family is founded
                obtain ⟨en, hm, h2⟩ := id hs
                obtain ⟨f1, f2⟩ := hR.found hm hbk
                obtain ⟨v', w', m', g1, g2, g3, g4⟩ := appendFam_run (ty := ty) f1 ht hu hd hi hz hzs hs hnl hlen hns hcells (by omega) hc2 hc1 hc3 h9
                exact ⟨v', w', m', g1, g2, g3, Goes.trans hR f2 g4⟩
              · -- lax: a family is founded
                obtain ⟨en, hm, h2⟩ := id hs
                obtain ⟨f1, f2⟩ := hR.foundLax hm hbk
                obtain ⟨v', w', m', g1, g2, g3, g4⟩ := appendFam_run (ty := ty) f1 ht hu hd hi hz hzs hs hnl hlen hns hcells (by omega) hc2 hc1 hc3 h9
                exact ⟨v', w', m', g1, g2, g3, Goes.trans hR f2 g4⟩
              · exact appendFam_run hR ht hu hd hi hz hzs hs hnl hlen hns hcells (by omega) hc2 hc1 hc3 h9
            · split at h9
              · rename_i hble hone
                split at h9
                · rename_i aw1 hst
                  cases h9
                  obtain ⟨en, hm, ad, cp, rfl, hle, hcase⟩ := id hs
                  have hl1 : 1 ≤ len := Nat.le_of_ble_eq_true hone
                  have hbound : off + (len + (k + 1)) * i.size ≤ l.length := Nat.le_of_ble_eq_true hble
                  rcases hcase with ⟨rfl, htot⟩ | h0
                  · have hal : aw.alive b sh = true := by
                      unfold AW.store at hst
                      rw [hbk] at hst
                      simp only [] at hst
                      split at hst
                      · assumption
                      · assumption
                      · assumption
                      · cases hst
                    obtain ⟨cur, tt, lo, hi', p1, p2, p3, p4, p5⟩ := hR.blk b en _ hm hbk hal
                    have hroom : len + (k + 1) ≤ cp := by
                      apply Nat.le_of_mul_le_mul_right (c := i.size) _ hc4
                      omega
                    obtain ⟨w', k1, k2, k3⟩ := store_run (P := P) hR hm hns hst
                    have hst' : (storeCells ((⟨en.c, en.s + off, none⟩ : Addr).add (len * i.size)) ns.toList).run P w = .ok () w' := by
                      rw [Addr.add_lit, show en.s + off + len * i.size = en.s + (off + len * i.size) from by omega]; exact k1
                    exact ⟨_, _, _, run_append_fits' (ty := ty) ht hu hd hi hlen (hcells w rfl) hroom (ba := some ⟨en.c, en.s + off, none⟩) hst', ⟨en, hm, _, _, rfl, hroom, .inl ⟨rfl, htot⟩⟩, k2, k3⟩
                  · omega
                · cases h9
              · cases h9
          · cases h9
        · cases h9
    all_goals cases h
end
theorem args2 {ts : Array TypeId} {args : Array Operand} {t u : TypeId} {x y : Operand} (ht : ts.toList = [t, u]) (ha : args.toList = [x, y]) : ts = #[t, u] ∧ args = #[x, y] := by
  cases ts; cases args; simp_all
theorem append_ok (hR : R aw w m base) (hfr : FR m N fr act.tmps) {t u e : TypeId} {i : TypeInfo} {d : TypeDesc} {z : Value} {s x : Operand} {a b : Opd} {args : Array Operand} {ts : Array TypeId}
    (ho : o.op = .call { callee := .builtin .append, args := args, argTypes := ts }) (hts : ts.toList = [t, u]) (hargs : args.toList = [s, x]) (hs : cOpd s = some a) (hx : cOpd x = some b)
    (ht : P.underlying t = some (.slice e)) (hu : P.underlying u = some d) (hd : ∀ k, d ≠ .int k) (hi : P.info? e = some i) (hz : i.zero = some z) (hzs : z.cells.size = i.size)
    {sv xv v : V} {k : Nat} {news : List V} (h1 : a.ev fr = some sv) (h2 : b.ev fr = some xv) (h3 : aw.elems i.size xv = some (k, news)) (h4 : aw.appendV i.size i.bytes sv k news = some (v, aw')) :
    OpOK P o act aw aw' w m base (.val v) := by
  obtain ⟨rfl, rfl⟩ := args2 hts hargs
  have e1 := cOpd_ok hfr hs h1
  have e2 := cOpd_ok hfr hx h2
  obtain ⟨q1, q2, ns, q3, q4⟩ := elems_run (P := P) hR e2 h3
  obtain ⟨v', w', m', g1, g2, g3, g4⟩ := appendV_run (ty := o.type) ht hu hd hi hz hzs hR e1 q1 q2 q3 q4 h4
  exact ⟨v', w', m', run_builtin ho (vs := #[act.eval s, act.eval x]) (by simp) (fun _ => rfl) g1, g2, g3, g4⟩
end
end Go.AE
