/- AE, part 14: make, append, copy, clear, texts and bytes. -/
import Derived.Test.YtjidefnbancmfaaAe13
import Derived.Lib.AppendStr
set_option linter.unusedVariables false
set_option linter.unusedSimpArgs false
namespace Go.AE

section
variable {P : Program} {o : Oper} {act : Act} {aw aw' : AW} {w : World} {m : Map} {base N : Nat} {fr : Fr}

theorem mkSlice_ok (hR : R aw w m base) (hfr : FR m N fr act.tmps) {t el : TypeId} {l c : Operand} {al ac : Opd} {i : TypeInfo} {z : V} (ho : o.op = .makeSlice t l c) (hl : cOpd l = some al) (hc : cOpd c = some ac)
    (hu : P.underlying t = some (.slice el)) (hi : P.info? el = some i) (hz : zeroOf P el = some z) (hzl : z.cells.length = i.size) (hpos : 0 < i.size)
    {lv cv : V} {ln cn : Nat} (h1 : al.ev fr = some lv) (h2 : ac.ev fr = some cv) (h3 : idx lv = some ln) (h4 : idx cv = some cn) (h5 : ln ≤ cn) (h6 : cn ≤ 70368744177664) (h7 : cn * i.bytes ≤ 70368744177664) :
    OpOK P o act aw (aw.fresh ((List.replicate cn z.cells).flatten)) w m base (.val (.slice aw.next 0 ln (.known cn))) := by
  obtain ⟨k1, e1⟩ := idx_inv h3 (cOpd_ok hfr hl h1)
  obtain ⟨k2, e2⟩ := idx_inv h4 (cOpd_ok hfr hc h2)
  obtain ⟨z', hz1, hz2⟩ := zero_ok (P := P) (w := w) (m := m) hz
  have hv := rep_VRs hz2.cells cn (cn * i.size) (by rw [hzl])
  obtain ⟨r1, r2⟩ := fresh_run hR (t := el) (lo := 0) (hi := 0) rfl hv.CR (by simp [hzl])
  refine ⟨.slice (some ⟨w.heap.size, 0, none⟩) ln cn, _, _, ?_, ⟨_, Map.set_same _ _ _, rfl⟩, r1, r2⟩
  have w1 : IntKind.i64.wrap (ln : Int) = ln := IntWalk.i64_in _ (by omega)
  have w2 : IntKind.i64.wrap (cn : Int) = cn := IntWalk.i64_in _ (by omega)
  have hb : ¬ ((i.bytes : Int) * (cn : Int) > 2 ^ 48) := by
    rw [Int.mul_comm]
    have : ((cn * i.bytes : Nat) : Int) ≤ 70368744177664 := by omega
    rw [Int.natCast_mul] at this
    omega
  have hs : (sizeOf el).run P w = .ok i.size w := by simp [sizeOf, typeInfo, hi]
  simp only [execOp, ho, Instr.makeSlice, Sem.run_bind, run_underlying hu, Result.andThen_ok, e1, e2, asInt, asIntOf, Sem.run_pure, typeInfo, run_program, hi, w1, w2]
  have hcond : (decide ((cn : Int) < 0) || decide ((i.bytes : Int) * (cn : Int) > 2 ^ 48) || decide ((ln : Int) < 0) || decide ((ln : Int) > (cn : Int))) = false := by
    simp only [Bool.or_eq_false_iff, decide_eq_false_iff_not]
    refine ⟨⟨⟨by omega, hb⟩, by omega⟩, by omega⟩
  rw [if_neg (by rw [hcond]; simp)]
  simp only [run_askRoom, Sem.run_bind, Sem.run_pure, Result.andThen_ok, hs, Int.toNat_natCast]
  by_cases h0 : cn * i.size = 0
  · rw [if_pos h0]
    have q1 : (Array.range (cn * i.size)).map (fun x => (#[] : Array Value)[x % (#[] : Array Value).size]!) = #[] := by rw [h0]; simp
    have q2 : (Array.range (cn * i.size)).map (fun x => z'.cells[x % z'.cells.size]!) = #[] := by rw [h0]; simp
    simp only [Sem.run_pure, Result.andThen_ok, q1, q2, newRow, Sem.run_bind, run_newObj]
    rfl
  · rw [if_neg h0]
    simp [hz1, newRow]

/-! ### append -/
theorem strCells_VRs (s : ByteArray) : VRs m (intCells (strL s)) (Lib.strCells s) := by
  simp only [intCells, strL, Lib.strCells, List.map_map]
  induction s.data.toList with
  | nil => rfl
  | cons x xs ih => exact ⟨_, _, rfl, rfl, ih⟩
theorem elems_run (hR : R aw w m base) {esz : Nat} {v : V} {x : Value} (hx : VR m v x) {k : Nat} {news : List V} (h : aw.elems esz v = some (k, news)) :
    news.length = k * esz ∧ (Builtin.lenOf x).run P w = .ok k w ∧ ∃ ns : Array Value, VRs m news ns.toList ∧ ∀ w1 : World, w1.heap = w.heap → (Builtin.firstCells esz k x).run P w1 = .ok ns w1 := by
  cases v <;> simp only [AW.elems] at h
  case nilslice =>
    cases h; cases hx
    exact ⟨by simp, rfl, #[], rfl, fun w1 _ => rfl⟩
  case slice b off len cap =>
    have hlen : (Builtin.lenOf x).run P w = .ok len w := by
      obtain ⟨e, _, h2⟩ := hx
      cases cap with
      | known c => simp only [] at h2; subst h2; rfl
      | upTo z => obtain ⟨ad, cp, rfl, _⟩ := h2; rfl
    cases len with
    | zero =>
      cases h
      refine ⟨by simp, hlen, #[], rfl, fun w1 _ => ?_⟩
      obtain ⟨e, _, h2⟩ := hx
      cases cap with
      | known c => simp only [] at h2; subst h2; simp [Builtin.firstCells, loadCells, loadCellsFrom]
      | upTo z => obtain ⟨ad, cp, rfl, _⟩ := h2; simp [Builtin.firstCells, loadCells, loadCellsFrom]
    | succ len =>
      have h : (match aw.load b off ((len + 1) * esz) with | some l => some (len + 1, l) | none => none) = some (k, news) := h
      split at h
      · rename_i l hl
        cases h
        obtain ⟨e, hm, h2⟩ := hx
        obtain ⟨ys, y1, y2, y3⟩ := load_cells hR hm hl
        refine ⟨by have := y2.length; omega, hlen, ys.toArray, y2, fun w1 hw => ?_⟩
        have hcell : ∀ a, w1.cell? a = w.cell? a := fun a => by simp [World.cell?, hw]
        have hload : (loadCells ⟨e.c, e.s + off, none⟩ ((len + 1) * esz)).run P w1 = .ok ys.toArray w1 := by
          rw [← y1]
          exact run_loadCells_list w1 _ ys (fun j v hj => by rw [hcell]; exact y3 j v hj)
        cases cap with
        | known c => simp only [] at h2; subst h2; exact hload
        | upTo z =>
          obtain ⟨ad, cp, rfl, hle, hcase⟩ := h2
          rcases hcase with ⟨rfl, _⟩ | h0
          · exact hload
          · omega
      · cases h
  case str l =>
    split at h
    · rename_i h1
      cases h
      subst h1
      obtain ⟨s, rfl, rfl⟩ := hx
      refine ⟨by simp [intCells], by rw [strL_length]; rfl, (Lib.strCells s).toArray, strCells_VRs s, fun w1 _ => ?_⟩
      rw [strL_length]
      exact Lib.run_firstCells_string w1 1 s
    · cases h
  all_goals cases h

theorem notInt {u : TypeId} {d : TypeDesc} (hu : P.underlying u = some d) (hd : ∀ k, d ≠ .int k) :
    (do pure ((← underlying u) matches .int _) : Sem Bool).run P w = .ok false w := by
  simp only [Sem.run_bind, run_underlying hu, Result.andThen_ok]
  cases d <;> first | rfl | exact absurd rfl (hd _)
/-- append where there is room. -/
theorem run_append_fits' {t u ty e : TypeId} {i : TypeInfo} {d : TypeDesc} (ht : P.underlying t = some (.slice e)) (hu : P.underlying u = some d) (hd : ∀ k, d ≠ .int k) (hi : P.info? e = some i)
    {ba : Option Addr} {sLen sCap : Nat} {x : Value} {k : Nat} {ns : Array Value} (hlen : (Builtin.lenOf x).run P w = .ok k w) (hcells : (Builtin.firstCells i.size k x).run P w = .ok ns w) (hroom : sLen + k ≤ sCap) {w' : World}
    (hst : match ba with | some a => (storeCells (a.add (sLen * i.size)) ns.toList).run P w = .ok () w' | none => w' = w) :
    (Builtin.append_ #[t, u] ty #[.slice ba sLen sCap, x]).run P w = .ok (.slice ba (sLen + k) sCap) w' := by
  have hn := notInt (w := w) hu hd
  simp only [Sem.run_bind, run_underlying hu, Result.andThen_ok] at hn
  have hs : (sizeOf e).run P w = .ok i.size w := by simp [sizeOf, typeInfo, hi]
  cases ba with
  | none =>
    subst hst
    simp [Builtin.append_, run_underlying ht, run_underlying hu, hs, hn, hlen, hcells, hroom]
  | some a => simp [Builtin.append_, run_underlying ht, run_underlying hu, hs, hn, hlen, hcells, hroom, hst]
/-- append where there is none. -/
theorem run_append_grows' {t u ty e : TypeId} {i : TypeInfo} {d : TypeDesc} {z : Value} (ht : P.underlying t = some (.slice e)) (hu : P.underlying u = some d) (hd : ∀ k, d ≠ .int k) (hi : P.info? e = some i) (hz : i.zero = some z)
    {ba : Option Addr} {sLen sCap : Nat} {x : Value} {k : Nat} {os ns : Array Value} (hlen : (Builtin.lenOf x).run P w = .ok k w) (hold : (Builtin.firstCells i.size sLen (.slice ba sLen sCap)).run P w.drew = .ok os w.drew)
    (hcells : (Builtin.firstCells i.size k x).run P w.drew = .ok ns w.drew) (hno : sCap < sLen + k) (h63 : sLen + k ≤ 70368744177664) (hb : (sLen + k) * i.bytes ≤ 70368744177664) :
    (Builtin.append_ #[t, u] ty #[.slice ba sLen sCap, x]).run P w = .ok (.slice (some ⟨w.heap.size, 0, none⟩) (sLen + k) (grownCap w (sLen + k) sCap e))
      (w.drew.alloc (.cells (os ++ ns ++ Builtin.zeroCells z.cells (grownCap w (sLen + k) sCap e - (sLen + k))) e)) := by
  have hn := notInt (w := w) hu hd
  simp only [Sem.run_bind, run_underlying hu, Result.andThen_ok] at hn
  have hs : (sizeOf e).run P w = .ok i.size w := by simp [sizeOf, typeInfo, hi]
  have hroom : ¬ (sLen + k ≤ sCap) := by omega
  have h63' : ¬ (9223372036854775807 < ((sLen : Int) + (k : Int))) := by omega
  have hfit := growslice_fits hno (show (sLen + k) * i.bytes ≤ 140737488355328 by omega)
  have hfit' : ¬ (281474976710656 < Builtin.nextslicecap (sLen + k) sCap * i.bytes) := by omega
  have hdrew : ({ w with drawn := w.drawn + 1 } : World) = w.drew := rfl
  simp [Builtin.append_, run_underlying ht, run_underlying hu, hs, hn, hlen, hroom, h63', hfit', Question.forced, hdrew, hold, hcells, zeroValue, typeInfo, hi, hz, newRow, grownCap]
end
end Go.AE
