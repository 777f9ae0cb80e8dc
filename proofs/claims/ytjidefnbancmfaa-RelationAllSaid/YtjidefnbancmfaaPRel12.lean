/- RelationAll: an operation's row, read and copied. -/
import Derived.Test.YtjidefnbancmfaaPRel11
set_option linter.unusedVariables false
set_option linter.unusedSimpArgs false
namespace Go.Proofs.Ytjidefnbancmfaa
open Go.AE
variable {tab : Tab}
abbrev IntR : AW → Int → List V → Prop := fun _ n xs => xs = [.int .i64 n] ∧ (Lit.int .i64 n).wf = true
/-- an operation: its kind, its row. -/
abbrev OpR : AW → Int × List Int × Unit → List V → Prop := fun aw p xs => ∃ x1 x2, xs = x1 ++ x2 ∧ IntR aw p.1 x1 ∧ ∃ y1 y2, x2 = y1 ++ y2 ∧ SliceR IntR aw p.2.1 y1 ∧ y2 = []
theorem ints_flat {aw : AW} : ∀ {l : List Int} {xss : List (List V)}, All2 (IntR aw) l xss → xss.flatten = rowC l
  | [], _, .nil => rfl
  | x :: l, _, .cons h1 h2 => by
    rw [List.flatten_cons, ints_flat h2, h1.1]; rfl
/-- a row for reading. -/
def RoRow (w : AW) (v : V) (l : List Int) : Prop := (v = .nilslice ∧ l = []) ∨ ∃ b c, v = .slice b 0 l.length c ∧ w.heap.get b = some (.cells (rowC l) .ro) ∧ CapOk l.length c
theorem roRow_of {aw w : AW} {l : List Int} {v : V} (h : SliceR IntR aw l [v]) (hx : Ext aw.next aw w) : RoRow w v l := by
  rcases h with ⟨h1, h2⟩ | ⟨b, c, xss, h1, hb, hg, ha, hl, hc⟩
  · cases h1; exact .inl ⟨rfl, h2⟩
  · cases h1
    rw [ints_flat ha] at hg
    exact .inr ⟨b, c, rfl, (hx.heap b hb).trans hg, hc⟩
theorem op_cells {aw : AW} {p : Int × List Int × Unit} {xs : List V} (h : OpR aw p xs) : ∃ rv, xs = [.int .i64 p.1, rv] ∧ SliceR IntR aw p.2.1 [rv] := by
  obtain ⟨x1, x2, rfl, ⟨rfl, _⟩, y1, y2, rfl, h2, rfl⟩ := h
  have hy : y1.length = 1 := by
    rcases h2 with ⟨rfl, _⟩ | ⟨b, c, xss, rfl, _⟩ <;> rfl
  match y1, hy with
  | [rv], _ => exact ⟨rv, rfl, h2⟩
/-- the i-th operation's cells. -/
theorem ops_at {aw : AW} : ∀ {ops : List (Int × List Int × Unit)} {xss : List (List V)}, All2 (OpR aw) ops xss → ∀ {i : Nat} {p : Int × List Int × Unit}, ops[i]? = some p → ∃ rv, SliceR IntR aw p.2.1 [rv] ∧ (xss.flatten.drop (i * 2)).take 2 = [.int .i64 p.1, rv]
  | [], _, .nil, i, p, h => by simp at h
  | x :: l, y :: m, .cons h1 h2, 0, p, h => by
    simp at h; subst h
    obtain ⟨rv, e, hs⟩ := op_cells h1
    refine ⟨rv, hs, ?_⟩
    rw [List.flatten_cons, e]; rfl
  | x :: l, y :: m, .cons h1 h2, i + 1, p, h => by
    obtain ⟨rv0, e, _⟩ := op_cells h1
    obtain ⟨rv, hs, h3⟩ := ops_at h2 (i := i) (p := p) (by simpa using h)
    refine ⟨rv, hs, ?_⟩
    have : (i + 1) * 2 = i * 2 + 2 := by omega
    rw [List.flatten_cons, e, this]
    exact h3
theorem takeN_of : ∀ {n : Nat} {l r : List V}, l.take n = r → r.length = n → takeN n l = some r := by
  intro n l r h hr
  have : n ≤ l.length := by rw [← h, List.length_take] at hr; omega
  rw [takeN_some n l this, h]
theorem op_load {w : AW} {b i : Nat} {l : List V} {x y : V} (hx : w.heap.get b = some (.cells l .ro)) (h : (l.drop (i * 2)).take 2 = [x, y]) : w.load b (0 + i * 2) 1 = some [x] ∧ w.load b (0 + i * 2 + 1) 1 = some [y] := by
  have e : l.drop (i * 2) = x :: y :: (l.drop (i * 2)).drop 2 := by
    have := List.take_append_drop 2 (l.drop (i * 2))
    rw [h] at this; exact this.symm
  constructor
  · simp only [AW.load, hx, AW.alive, Nat.zero_add]
    rw [e]; rfl
  · simp only [AW.load, hx, AW.alive, Nat.zero_add]
    rw [← List.drop_drop, e]; rfl
/-- a copy of a row. -/
theorem row_copy {w : AW} {v : V} {l : List Int} (hl : l.length ≤ 1000) (he : w.elems 1 v = some (l.length, rowC l)) :
    ∃ v' w', w.appendV 1 8 .nilslice l.length (rowC l) = some (v', w') ∧ RowV (fun x => w.next ≤ x ∧ x < w'.next) w' v' l ∧ Frm (fun _ => False) w w' := by
  cases hn : l.length with
  | zero =>
    have : l = [] := List.length_eq_zero_iff.1 hn
    subst this
    exact ⟨.nilslice, w, rfl, .nil, Frm.refl _⟩
  | succ k =>
    refine ⟨.slice w.next 0 (k + 1) (.upTo 1), w.fresh (rowC l), ?_, .blk ⟨Nat.le_refl _, Nat.lt_succ_self _⟩ (Nat.lt_succ_self _) AE.T.get_put_same hn, Frm.new _ _⟩
    simp only [AW.appendV]; rw [if_pos ⟨by omega, by omega⟩]
theorem ro_elems {w : AW} {v : V} {l : List Int} (h : RoRow w v l) : w.elems 1 v = some (l.length, rowC l) := by
  rcases h with ⟨rfl, rfl⟩ | ⟨b, c, rfl, hg, _⟩
  · rfl
  · cases l with
    | nil => rfl
    | cons x l =>
      simp only [AW.elems, List.length_cons, AW.load, hg, AW.alive, List.drop_zero]
      rw [takeN_all _ _ (by simp [rowC])]
theorem rowV_elems {T : Nat → Prop} {w : AW} {v : V} {l : List Int} (h : RowV T w v l) : w.elems 1 v = some (l.length, rowC l) := by
  rcases h.inv with ⟨rfl, rfl⟩ | ⟨b, c, rfl, _, _, hx⟩
  · rfl
  · exact row_elems hx
end Go.Proofs.Ytjidefnbancmfaa
