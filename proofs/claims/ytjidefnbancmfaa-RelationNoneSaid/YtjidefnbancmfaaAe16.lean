/- AE, part 16: copy, clear, texts and bytes. -/
import Derived.Test.YtjidefnbancmfaaAe15
set_option linter.unusedVariables false
set_option linter.unusedSimpArgs false
namespace Go.AE

section
variable {P : Program} {o : Oper} {act : Act} {aw aw' : AW} {w : World} {m : Map} {base N : Nat} {fr : Fr}

theorem elems_first (hR : R aw w m base) {esz : Nat} {v : V} {x : Value} (hx : VR m v x) {k n : Nat} {news : List V} (h : aw.elems esz v = some (k, news)) (hn : n ≤ k) :
    ∃ ns : Array Value, VRs m (news.take (n * esz)) ns.toList ∧ (Builtin.firstCells esz n x).run P w = .ok ns w := by
  cases v <;> simp only [AW.elems] at h
  case nilslice =>
    cases h; cases hx
    exact ⟨#[], by simp; rfl, rfl⟩
  case slice b off len cap =>
    cases len with
    | zero =>
      cases h
      obtain rfl : n = 0 := by omega
      refine ⟨#[], by simp; rfl, ?_⟩
      obtain ⟨e, _, h2⟩ := hx
      cases cap with
      | known c => simp only [] at h2; subst h2; simp [Builtin.firstCells, loadCells, loadCellsFrom]
      | upTo z => obtain ⟨ad, cp, rfl, _⟩ := h2; simp [Builtin.firstCells, loadCells, loadCellsFrom]
    | succ len =>
      have h : (match aw.load b off ((len + 1) * esz) with | some l => some (len + 1, l) | none => none) = some (k, news) := h
      split at h
      · rename_i l hl
        cases h
        obtain ⟨e, hm, h2⟩ := hx
        obtain ⟨ys, y1, y2, y3⟩ := load_cells hR hm hl
        have hle : n * esz ≤ ys.length := by rw [y1]; exact Nat.mul_le_mul_right _ hn
        have hload : (loadCells ⟨e.c, e.s + off, none⟩ (n * esz)).run P w = .ok (ys.take (n * esz)).toArray w := by
          have := run_loadCells_list (P := P) w ⟨e.c, e.s + off, none⟩ (ys.take (n * esz)) (fun j v hj => by
            rw [List.getElem?_take] at hj
            split at hj
            · exact y3 j v hj
            · cases hj)
          rw [List.length_take, Nat.min_eq_left hle] at this
          exact this
        refine ⟨(ys.take (n * esz)).toArray, by simpa using y2.take, ?_⟩
        cases cap with
        | known c => simp only [] at h2; subst h2; exact hload
        | upTo z =>
          obtain ⟨ad, cp, rfl, hle, hcase⟩ := h2
          rcases hcase with ⟨rfl, _⟩ | h0
          · exact hload
          · omega
      · cases h
  case str l =>
    split at h
    · rename_i h1
      cases h
      subst h1
      obtain ⟨s, rfl, rfl⟩ := hx
      refine ⟨_, ?_, rfl⟩
      have e : ((s.extract 0 n).data.map fun b => Value.int .u8 b.toNat).toList = (Lib.strCells s).take n := by
        simp only [Array.toList_map, Lib.extract_data, Lib.strCells, List.drop_zero, Nat.sub_zero, List.map_take]
      rw [e, Nat.mul_one]
      exact (strCells_VRs s).take
    · cases h
  all_goals cases h
theorem copy_ok (hR : R aw w m base) (hfr : FR m N fr act.tmps) {t e : TypeId} {esz : Nat} {d s : Operand} {a b : Opd} {args : Array Operand} {ts : Array TypeId} {tr : List TypeId}
    (ho : o.op = .call { callee := .builtin .copy, args := args, argTypes := ts }) (hts : ts.toList = t :: tr) (hargs : args.toList = [d, s]) (hd : cOpd d = some a) (hs : cOpd s = some b)
    (ht : P.underlying t = some (.slice e)) (hsz : sizeOf? P e = some esz) {bk off len k : Nat} {cap : Cap} {sv : V} {l cs : List V} (h1 : a.ev fr = some (.slice bk off len cap)) (h2 : b.ev fr = some sv) (h3 : aw.elems esz sv = some (k, l))
    (h4 : takeN (min k len * esz) l = some cs) (h5 : (cs = [] ∧ aw' = aw) ∨ (cs ≠ [] ∧ aw.store bk off cs = some aw')) : OpOK P o act aw aw' w m base (.val (.int .i64 (Int.ofNat (min k len)))) := by
  have hargs' : args = #[d, s] := by cases args; simp_all
  have hts' : ts = (t :: tr).toArray := by cases ts; simp_all
  subst hargs' hts'
  have e1 := cOpd_ok hfr hd h1
  have e2 := cOpd_ok hfr hs h2
  obtain ⟨q1, q2, _⟩ := elems_run (P := P) hR e2 h3
  obtain ⟨ns, n1, n2⟩ := elems_first (P := P) hR e2 h3 (n := min k len) (Nat.min_le_left _ _)
  obtain ⟨c1, c2⟩ := takeN_eq h4
  rw [← c1] at n1
  have hrun : ∀ (ba : Option Addr) (cp : Nat) (w' : World), act.eval d = .slice ba len cp → (match ba with | some a => (storeCells a ns.toList).run P w = .ok () w' | none => w' = w) →
      (Builtin.copy_ (t :: tr).toArray o.type #[act.eval d, act.eval s]).run P w = .ok (.int .i64 (Int.ofNat (min k len))) w' := by
    intro ba cp w' hda hst
    have hmin : Nat.min k len = min k len := rfl
    cases ba with
    | none => subst hst; simp [Builtin.copy_, run_underlying ht, hda, q2, run_sizeOf hsz, hmin, n2, goInt]
    | some ad => simp [Builtin.copy_, run_underlying ht, hda, q2, run_sizeOf hsz, hmin, n2, goInt, hst]
  obtain ⟨en, hm, e3⟩ := e1
  have hw : ∃ ad cp, act.eval d = .slice (some ad) len cp ∧ (len = 0 ∨ ad = ⟨en.c, en.s + off, none⟩) := by
    cases cap with
    | known c => exact ⟨_, c, e3, .inr rfl⟩
    | upTo z =>
      obtain ⟨ad, cp, h6, hle, hcase⟩ := e3
      rcases hcase with ⟨h7, _⟩ | h7
      · exact ⟨ad, cp, h6, .inr h7⟩
      · exact ⟨ad, cp, h6, .inl (by omega)⟩
  obtain ⟨ad, cp, h6, h7⟩ := hw
  rcases h5 with ⟨rfl, rfl⟩ | ⟨hne, hst⟩
  · have hns : ns.toList = [] := n1
    refine ⟨_, w, m, run_builtin ho (vs := #[act.eval d, act.eval s]) (by simp) (fun _ => rfl) (hrun _ cp w h6 ?_), rfl, hR, .refl _ _ _⟩
    rw [hns]; rfl
  · have had : ad = ⟨en.c, en.s + off, none⟩ := by
      rcases h7 with h7 | h7
      · exfalso
        subst h7
        simp at c1
        exact hne c1
      · exact h7
    subst had
    obtain ⟨w', k1, k2, k3⟩ := store_run (P := P) hR hm n1 hst
    exact ⟨_, w', m, run_builtin ho (vs := #[act.eval d, act.eval s]) (by simp) (fun _ => rfl) (hrun _ cp w' h6 k1), rfl, k2, k3⟩
theorem copyNil_ok (hR : R aw w m base) (hfr : FR m N fr act.tmps) {t e : TypeId} {esz : Nat} {d s : Operand} {a b : Opd} {args : Array Operand} {ts : Array TypeId} {tr : List TypeId}
    (ho : o.op = .call { callee := .builtin .copy, args := args, argTypes := ts }) (hts : ts.toList = t :: tr) (hargs : args.toList = [d, s]) (hd : cOpd d = some a) (hs : cOpd s = some b)
    (ht : P.underlying t = some (.slice e)) (hsz : sizeOf? P e = some esz) {k : Nat} {sv : V} {l : List V} (h1 : a.ev fr = some .nilslice) (h2 : b.ev fr = some sv) (h3 : aw.elems esz sv = some (k, l)) :
    OpOK P o act aw aw w m base (.val (.int .i64 0)) := by
  have hargs' : args = #[d, s] := by cases args; simp_all
  have hts' : ts = (t :: tr).toArray := by cases ts; simp_all
  subst hargs' hts'
  have e1 : act.eval d = .slice none 0 0 := cOpd_ok hfr hd h1
  have e2 := cOpd_ok hfr hs h2
  obtain ⟨q1, q2, _⟩ := elems_run (P := P) hR e2 h3
  obtain ⟨ns, n1, n2⟩ := elems_first (P := P) hR e2 h3 (n := 0) (Nat.zero_le _)
  have hmin : Nat.min k 0 = 0 := Nat.min_zero k
  exact ⟨_, w, m, run_builtin ho (vs := #[act.eval d, act.eval s]) (by simp) (fun _ => rfl) (by simp [Builtin.copy_, run_underlying ht, e1, q2, run_sizeOf hsz, hmin, n2, goInt]), rfl, hR, .refl _ _ _⟩
theorem zeroCells_VRs {l : List V} {z : Array Value} (h : VRs m l z.toList) (n : Nat) : VRs m (List.replicate n l).flatten (Builtin.zeroCells z n).toList := by
  have := h.length
  simp only [Array.length_toList] at this
  exact rep_VRs h n (n * z.size) (by rw [this])
theorem clear_ok (hR : R aw w m base) (hfr : FR m N fr act.tmps) {t e : TypeId} {z : V} {x : Operand} {a : Opd} {args : Array Operand} {ts : Array TypeId} {tr : List TypeId}
    (ho : o.op = .call { callee := .builtin .clear, args := args, argTypes := ts }) (hts : ts.toList = t :: tr) (hargs : args.toList = [x]) (hx : cOpd x = some a)
    (ht : P.underlying t = some (.slice e)) (hz : zeroOf P e = some z) {v : V} (h1 : a.ev fr = some v)
    (h : ((v = .nilslice ∨ ∃ b off cap, v = .slice b off 0 cap) ∧ aw' = aw) ∨ ∃ b off len cap, v = .slice b off (len + 1) cap ∧ aw.store b off ((List.replicate (len + 1) z.cells).flatten) = some aw') :
    OpOK P o act aw aw' w m base (.val (.tuple [])) := by
  have hargs' : args = #[x] := by cases args; simp_all
  have hts' : ts = (t :: tr).toArray := by cases ts; simp_all
  subst hargs' hts'
  have e1 := cOpd_ok hfr hx h1
  obtain ⟨z', hz1, hz2⟩ := zero_ok (P := P) (w := w) (m := m) hz
  rcases h with ⟨h2, rfl⟩ | ⟨b, off, len, cap, rfl, hst⟩
  · have : ∃ ba cp, act.eval x = .slice ba 0 cp := by
      rcases h2 with rfl | ⟨b, off, cap, rfl⟩
      · exact ⟨none, 0, e1⟩
      · obtain ⟨en, hm, e3⟩ := e1
        cases cap with
        | known c => exact ⟨_, c, e3⟩
        | upTo q => obtain ⟨ad, cp, h6, _⟩ := e3; exact ⟨_, cp, h6⟩
    obtain ⟨ba, cp, e4⟩ := this
    refine ⟨.tuple #[], w, m, run_builtin ho (vs := #[act.eval x]) (by simp) (fun _ => rfl) ?_, ⟨#[], rfl, rfl⟩, hR, .refl _ _ _⟩
    cases ba <;> simp [Builtin.clear_, run_underlying ht, e4]
  · obtain ⟨en, hm, e3⟩ := e1
    have hw : ∃ cp, act.eval x = .slice (some ⟨en.c, en.s + off, none⟩) (len + 1) cp := by
      cases cap with
      | known c => exact ⟨c, e3⟩
      | upTo z =>
        obtain ⟨ad, cp, h6, hle, hcase⟩ := e3
        rcases hcase with ⟨rfl, _⟩ | h7
        · exact ⟨cp, h6⟩
        · omega
    obtain ⟨cp, e4⟩ := hw
    obtain ⟨w', k1, k2, k3⟩ := store_run (P := P) hR hm (zeroCells_VRs hz2.cells (len + 1)) hst
    refine ⟨.tuple #[], w', m, run_builtin ho (vs := #[act.eval x]) (by simp) (fun _ => rfl) ?_, ⟨#[], rfl, rfl⟩, k2, k3⟩
    simp [Builtin.clear_, run_underlying ht, e4, hz1, k1]

theorem bytesOf_ok (hR : R aw w m base) (hfr : FR m N fr act.tmps) {src dst e : TypeId} {x : Operand} {a : Opd} (ho : o.op = .convert src dst x) (hs : P.underlying src = some .string) (hd : P.underlying dst = some (.slice e)) (he : P.underlying e = some (.int .u8))
    (hx : cOpd x = some a) {l : List Nat} (h1 : a.ev fr = some (.str l)) (hlen : l.length ≤ 70368744177664) : OpOK P o act aw (aw.freshLax (intCells l)) w m base (.val (.slice aw.next 0 l.length (.upTo 1))) := by
  obtain ⟨s, e1, rfl⟩ := cOpd_ok hfr hx h1
  rw [strL_length] at hlen ⊢
  have hge := grownCap_ge w s.size 0 e
  have hsize : ((s.data.map fun b : UInt8 => Value.int .u8 b.toNat) ++ Array.replicate (grownCap w s.size 0 e - s.size) (Value.int .u8 0)).size = grownCap w s.size 0 e := by
    simp; omega
  have hc : CR m (intCells (strL s)) 0 ((s.data.map fun b : UInt8 => Value.int .u8 b.toNat) ++ Array.replicate (grownCap w s.size 0 e - s.size) (Value.int .u8 0)) := by
    intro i q hq
    obtain ⟨y, y1, y2⟩ := (strCells_VRs (m := m) s).get hq
    refine ⟨y, ?_, y2⟩
    have hlt : i < (s.data.map fun b : UInt8 => Value.int .u8 b.toNat).size := by
      have := (List.getElem?_eq_some_iff.1 y1).1
      simpa [Lib.strCells] using this
    rw [Nat.zero_add, Array.getElem?_append_left hlt]
    simpa [Lib.strCells] using y1
  obtain ⟨r1, r2⟩ := freshLax_run hR.drew (t := e) (lo := grownCap w s.size 0 e) (hi := grownCap w s.size 0 e + 1) (.inr (by rw [hsize]; exact Nat.le_refl _)) hc (by rw [hsize]; simp [intCells, strL_length]; exact hge)
  rw [hsize] at r1 r2
  refine ⟨.slice (some ⟨w.heap.size, 0, none⟩) s.size (grownCap w s.size 0 e), _, _, ?_, ⟨_, Map.set_same _ _ _, _, _, rfl, hge, .inl ⟨rfl, by simp⟩⟩, r1, Goes.trans hR (Goes.drew aw w m) r2⟩
  have hdrew : ({ w with drawn := w.drawn + 1 } : World) = w.drew := rfl
  have hfz : ∀ (w : World) (cs : Array Value) (t : TypeId), (w.alloc (.cells cs t)).freeze ⟨w.heap.size, cs.size, none⟩ 1 = w.alloc (.cells cs t (cs.size, cs.size + 1)) := by
    intro w cs t
    simp only [World.freeze, World.alloc, if_neg (show ¬ (1 = 0) by omega)]
    congr 1
    rw [modify_set _ _ _ _ (by simp : (w.heap.push (.cells cs t))[w.heap.size]? = some (.cells cs t))]
    apply Array.ext_getElem?
    intro j
    by_cases hj : w.heap.size = j
    · subst hj; simp
    · rw [Array.getElem?_setIfInBounds_ne hj, Array.getElem?_push, Array.getElem?_push, if_neg (Ne.symm hj), if_neg (Ne.symm hj)]
  have hshape : ∀ (w : World) (cs : Array Value) (t : TypeId), (w.alloc (.cells cs t)).shape? w.heap.size = some (t, cs.size) := by
    intro w cs t
    simp only [World.shape?, heap_new]
  simp only [execOp, ho, e1, convert, Sem.run_bind, run_underlying hs, run_underlying hd, run_underlying he, Result.andThen_ok, Conv.stringToBytes, run_choose, Question.forced, Bool.false_eq_true, if_false, newRow, run_newObj, Sem.run_pure, markStringish, run_shape]
  have hcap : (Question.appendCap s.size 0 e).cut (w.tape w.drawn (.appendCap s.size 0 e)) = grownCap w s.size 0 e := rfl
  rw [hcap]
  generalize ((s.data.map fun b : UInt8 => Value.int .u8 b.toNat) ++ Array.replicate (grownCap w s.size 0 e - s.size) (Value.int .u8 0)) = B at *
  have hworld : ({ heap := w.heap.push (.cells B e), tape := w.tape, drawn := w.drawn + 1, os := w.os, output := w.output } : World) = w.drew.alloc (.cells B e) := rfl
  rw [hworld]
  have h1 : (w.drew.alloc (.cells B e)).shape? w.heap.size = some (e, B.size) := hshape w.drew B e
  rw [h1]
  simp only [run_freeze, Result.andThen_ok]
  have h2 : (w.drew.alloc (.cells B e)).freeze ⟨w.heap.size, B.size, none⟩ 1 = w.drew.alloc (.cells B e (B.size, B.size + 1)) := hfz w.drew B e
  rw [h2, hsize]

theorem bytesV_ok : ∀ {l : List V} {cs : List Nat} {ys : List Value}, bytesV l = some cs → VRs m l ys → ys = (cs.map fun n => (Int.ofNat n)).map (Value.int .u8) ∧ ∀ n ∈ cs, n < 256
  | [], cs, ys, h, hv => by cases h; cases hv; exact ⟨rfl, by simp⟩
  | v :: l, cs, ys, h, hv => by
    unfold bytesV at h
    split at h
    · rename_i heq
      cases heq
    · rename_i n l' heq
      cases heq
      split at h
      · rename_i r hlt hr
        cases h
        obtain ⟨y, yr, rfl, h1, h2⟩ := hv
        obtain ⟨q1, q2⟩ := bytesV_ok hr h2
        cases h1
        refine ⟨by simp [q1], ?_⟩
        intro k hk
        rcases List.mem_cons.1 hk with rfl | hk
        · exact Nat.blt_eq.mp hlt
        · exact q2 k hk
      · cases h
    · cases h
theorem push_all : ∀ (cs : List Nat) (s : ByteArray), (∀ n ∈ cs, n < 256) → strL ((cs.map fun n => (Int.ofNat n)).foldl (fun r n => r.push (UInt8.ofNat n.toNat)) s) = strL s ++ cs
  | [], s, _ => by simp
  | n :: cs, s, h => by
    simp only [List.map_cons, List.foldl_cons]
    rw [push_all cs _ (fun k hk => h k (by simp [hk]))]
    have hn : n < 256 := h n (by simp)
    have : strL (s.push (UInt8.ofNat (Int.ofNat n).toNat)) = strL s ++ [n] := by
      simp only [strL, ByteArray.data_push, Array.toList_push, List.map_append, List.map_cons, List.map_nil]
      congr 2
      simp [UInt8.toNat_ofNat']
      omega
    rw [this]
    simp
theorem strOf_ok (hR : R aw w m base) (hfr : FR m N fr act.tmps) {src dst e : TypeId} {x : Operand} {a : Opd} (ho : o.op = .convert src dst x) (hs : P.underlying src = some (.slice e)) (hd : P.underlying dst = some .string) (he : P.underlying e = some (.int .u8))
    (hx : cOpd x = some a) {v : V} (h1 : a.ev fr = some v) {cs : List Nat} (h : (v = .nilslice ∧ cs = []) ∨ ∃ b off len cap n l, v = .slice b off len cap ∧ aw.elems 1 v = some (n, l) ∧ bytesV l = some cs) : OpOK P o act aw aw w m base (.val (.str cs)) := by
  have e1 := cOpd_ok hfr hx h1
  rcases h with ⟨rfl, rfl⟩ | ⟨b, off, len, cap, n, l, rfl, h2, h3⟩
  · cases hq : act.eval x <;> rw [hq] at e1 <;> cases e1
    refine OpOK.quiet hR (v' := .string .empty) ?_ ⟨_, rfl, rfl⟩
    simp [execOp, ho, hq, convert, run_underlying hs, run_underlying hd, run_underlying he, Conv.bytesToString]
  · have hn := elems_len h2
    subst hn
    obtain ⟨q1, q2, os, q3, q4⟩ := elems_run (P := P) hR e1 h2
    obtain ⟨p1, p2⟩ := bytesV_ok h3 q3
    have hsl : ∃ ad cp, act.eval x = .slice (some ad) n cp := by
      obtain ⟨en, hm, e3⟩ := e1
      cases cap with
      | known c => exact ⟨_, c, e3⟩
      | upTo z => obtain ⟨ad, cp, h6, _⟩ := e3; exact ⟨ad, cp, h6⟩
    obtain ⟨ad, cp, e4⟩ := hsl
    have q5 := q4 w rfl
    rw [e4] at q5
    simp only [Builtin.firstCells, Nat.mul_one] at q5
    have hos : os = ((cs.map fun n => (Int.ofNat n)).map (Value.int .u8)).toArray := by rw [← p1]
    rw [hos] at q5
    have := run_bytesToString (P := P) w ad n cp _ q5
    refine OpOK.quiet hR (v' := .string ((cs.map fun n => (Int.ofNat n)).foldl (fun r n => r.push (UInt8.ofNat n.toNat)) ByteArray.empty)) ?_ ⟨_, rfl, ?_⟩
    · simp only [execOp, ho, e4, Sem.run_bind, run_convert_bytes_string w src dst e (some ad) n cp hs he hd, this, Result.andThen_ok]
      rfl
    · rw [push_all cs _ p2]; rfl
end
end Go.AE
