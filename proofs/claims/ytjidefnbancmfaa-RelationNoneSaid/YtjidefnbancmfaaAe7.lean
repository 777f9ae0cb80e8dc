/- AE, part 7: the operations that look at no memory are the model's. -/
import Derived.Test.YtjidefnbancmfaaAe6
set_option linter.unusedVariables false
set_option linter.unusedSimpArgs false
namespace Go.AE

def FR (m : Map) (N : Nat) (fr : Fr) (tmps : Array Value) : Prop := tmps.size = N ∧ ∀ d v, fr.get d = some v → ∃ v', tmps[d]? = some v' ∧ VR m v v'
theorem FR.mono {m m' : Map} (hm : m.le m') {N : Nat} {fr : Fr} {tmps : Array Value} (h : FR m N fr tmps) : FR m' N fr tmps :=
  ⟨h.1, fun d v hd => let ⟨v', h1, h2⟩ := h.2 d v hd; ⟨v', h1, h2.mono hm⟩⟩

theorem cV1_ok {m : Map} {v : Value} {x : V} (h : cV1 v = some x) : VR m x v := by
  unfold cV1 at h
  split at h <;> cases h <;> first | rfl | exact ⟨_, rfl, rfl⟩
theorem cVs_ok {m : Map} : ∀ {l : List Value} {x : List V}, cVs l = some x → VRs m x l
  | [], x, h => by cases h; rfl
  | v :: l, x, h => by
    simp only [cVs] at h
    split at h
    · rename_i y hy
      split at h
      · rename_i ys hys
        cases h
        exact ⟨v, l, rfl, cV1_ok hy, cVs_ok hys⟩
      · cases h
    · cases h
theorem cV_ok {m : Map} {v : Value} {x : V} (h : cV v = some x) : VR m x v := by
  unfold cV at h
  split at h
  · split at h
    · rename_i l hl; cases h; exact ⟨_, rfl, cVs_ok hl⟩
    · cases h
  · split at h
    · rename_i l hl; cases h; exact ⟨_, rfl, cVs_ok hl⟩
    · cases h
  · exact cV1_ok h
theorem cOpd_ok {m : Map} {N : Nat} {fr : Fr} {a : Act} (hfr : FR m N fr a.tmps) {o : Operand} {x : Opd} {v : V} (hc : cOpd o = some x) (h : x.ev fr = some v) : VR m v (a.eval o) := by
  unfold cOpd at hc
  split at hc
  · cases hc
    obtain ⟨v', h1, h2⟩ := hfr.2 _ _ h
    simp only [Act.eval, Array.getD_eq_getD_getElem?, h1, Option.getD_some]
    exact h2
  · split at hc
    · rename_i y hy; cases hc; cases h; exact cV_ok hy
    · cases hc
  · cases hc
  · cases hc; cases h
    exact ⟨#[], #[], rfl, rfl, rfl⟩
theorem cOpds_ok {m : Map} {N : Nat} {fr : Fr} {a : Act} (hfr : FR m N fr a.tmps) : ∀ {l : List Operand} {xs : List Opd} {vs : List V}, cOpds l = some xs → evs fr xs = some vs → VRs m vs (l.map a.eval)
  | [], xs, vs, hc, h => by cases hc; cases h; rfl
  | o :: l, xs, vs, hc, h => by
    simp only [cOpds] at hc
    split at hc
    · rename_i x hx
      split at hc
      · rename_i xs' hxs
        cases hc
        simp only [evs] at h
        split at h
        · rename_i v hv
          split at h
          · rename_i vs' hvs
            cases h
            exact ⟨_, _, rfl, cOpd_ok hfr hx hv, cOpds_ok hfr hxs hvs⟩
          · cases h
        · cases h
      · cases hc
    · cases hc

/-! what a value that is told must be -/
theorem VR.int_inv {m : Map} {k : IntKind} {n : Int} {v : Value} (h : VR m (.int k n) v) : v = .int k n := h
theorem VR.bool_inv {m : Map} {b : Bool} {v : Value} (h : VR m (.bool b) v) : v = .bool b := h

theorem eqL_iff : ∀ {a b : List Nat}, eqL a b = true ↔ a = b
  | [], [] => by simp [eqL]
  | [], _ :: _ => by simp [eqL]
  | _ :: _, [] => by simp [eqL]
  | a :: x, b :: y => by simp only [eqL, Bool.and_eq_true, List.cons.injEq, eqL_iff (a := x) (b := y)]; rw [Nat.beq_eq]
theorem strL_inj {s t : ByteArray} (h : strL s = strL t) : s = t := by
  have h1 : s.data.toList = t.data.toList := by
    have : ∀ (a b : List UInt8), a.map UInt8.toNat = b.map UInt8.toNat → a = b := by
      intro a
      induction a with
      | nil => intro b hb; cases b with | nil => rfl | cons _ _ => simp at hb
      | cons x xs ih =>
        intro b hb
        cases b with
        | nil => simp at hb
        | cons y ys =>
          simp only [List.map_cons, List.cons.injEq] at hb
          rw [ih ys hb.2, UInt8.toNat_inj.1 hb.1]
    exact this _ _ h
  cases s; cases t
  simp only [ByteArray.mk.injEq]
  exact Array.ext' h1
theorem strL_length (s : ByteArray) : (strL s).length = s.size := by
  unfold strL
  rw [List.length_map]
  rfl
theorem toList_data (s : ByteArray) : s.toList = s.data.toList := by
  exact ByteArray.toList_eq s
theorem eq_bytes (s t : ByteArray) : (s.toList == t.toList) = eqL (strL s) (strL t) := by
  rw [Bool.eq_iff_iff, eqL_iff, beq_iff_eq, toList_data, toList_data]
  constructor
  · intro h; simp [strL, h]
  · intro h; rw [strL_inj h]
theorem less_bytes : ∀ (a b : List UInt8), Op.bytesLess a b = lessL (a.map UInt8.toNat) (b.map UInt8.toNat)
  | _, [] => by cases ‹List UInt8› <;> rfl
  | [], _ :: _ => rfl
  | a :: x, b :: y => by
    simp only [Op.bytesLess, List.map_cons, lessL, less_bytes x y]
    congr 1
    · rw [Bool.eq_iff_iff]; simp [UInt8.lt_iff_toNat_lt, Nat.blt_eq]
    · congr 1
      rw [Bool.eq_iff_iff]; simp [← UInt8.toNat_inj]
end Go.AE
