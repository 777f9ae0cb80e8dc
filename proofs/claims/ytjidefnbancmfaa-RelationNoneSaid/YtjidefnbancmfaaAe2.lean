/- AE, part 2: the abstract heap, how it stands to the model's, and its steps: reading, writing, laying a new block. -/
import Derived.Test.YtjidefnbancmfaaAe1
set_option linter.unusedVariables false
namespace Go.AE

inductive Share where
  | own
  | lax
  | fam (f : Nat)
  | ro
  deriving DecidableEq
inductive Blk where
  | cells (l : List V) (sh : Share)
  | map (es : List (V × V × Nat)) (clock : Nat)
  | mapIter (m : Option Nat) (since : Nat) (seen : List Nat) (last : Nat)
structure Fam where
  keep : Nat
  floor : Nat
  last : Nat
structure AW where
  heap : T Blk
  next : Nat
  fams : T Fam
def AW.empty : AW := ⟨.e, 0, .e⟩

def AW.alive (aw : AW) (b : Nat) : Share → Bool
  | .fam f => match aw.fams.get f with
    | some F => Nat.beq b F.keep || Nat.ble F.floor b
    | none => false
  | _ => true

/-- the cells of a block of cells. -/
def CR (m : Map) (l : List V) (s : Nat) (cur : Array Value) : Prop := ∀ (i : Nat) (x : V), l[i]? = some x → ∃ y, cur[s + i]? = some y ∧ VR m x y
theorem CR.mono {m m' : Map} (hm : m.le m') {l : List V} {s : Nat} {cur : Array Value} (h : CR m l s cur) : CR m' l s cur :=
  fun i x hx => let ⟨y, h1, h2⟩ := h i x hx; ⟨y, h1, h2.mono hm⟩
/-- the entries of a map. -/
def ER (m : Map) : List (V × V × Nat) → List MapEntry → Prop
  | [], l => l = []
  | (k, v, n) :: xs, l => ∃ e es, l = e :: es ∧ VR m k e.key ∧ VR m v e.val ∧ e.born = n ∧ ER m xs es
theorem ER.mono {m m' : Map} (hm : m.le m') : ∀ {l : List (V × V × Nat)} {l' : List MapEntry}, ER m l l' → ER m' l l'
  | [], _, h => h
  | (k, v, n) :: xs, _, h => by
    obtain ⟨e, es, h1, h2, h3, h4, h5⟩ := h
    exact ⟨e, es, h1, h2.mono hm, h3.mono hm, h4, ER.mono hm h5⟩
def MR (m : Map) : Option Nat → Option Nat → Prop
  | none, r => r = none
  | some b, r => ∃ e, m b = some e ∧ r = some e.c
theorem MR.mono {m m' : Map} (hm : m.le m') {x r : Option Nat} (h : MR m x r) : MR m' x r := by
  cases x with
  | none => exact h
  | some b => obtain ⟨e, h1, h2⟩ := h; exact ⟨e, hm _ _ h1, h2⟩

/-- what an abstract block says of the model's. -/
def BR (aw : AW) (m : Map) (w : World) (b : Nat) (e : Emb) : Blk → Prop
  | .cells l sh => aw.alive b sh = true → ∃ cur t lo hi, w.heap[e.c]? = some (.cells cur t (lo, hi)) ∧ cur.size = e.tot ∧ e.s + l.length ≤ e.tot ∧ (lo = hi ∨ (sh ≠ .own ∧ cur.size ≤ lo)) ∧ CR m l e.s cur
  | .map es ck => ∃ es', w.heap[e.c]? = some (.map es' ck) ∧ ER m es es'.toList
  | .mapIter x since seen last => e.s = 0 ∧ ∃ r, w.heap[e.c]? = some (.mapIter r since seen.toArray last) ∧ MR m x r

/-- two abstract blocks may lie in one block of the model's where both are of one family, or both are for reading alone. -/
def Blk.mates : Blk → Blk → Bool
  | .cells _ (.fam f), .cells _ (.fam g) => f == g
  | .cells _ .ro, .cells _ .ro => true
  | _, _ => false
def AW.live (aw : AW) (b : Nat) : Blk → Bool
  | .cells _ sh => aw.alive b sh
  | _ => true

structure R (aw : AW) (w : World) (m : Map) (base : Nat) : Prop where
  famlt : ∀ b e l f, m b = some e → aw.heap.get b = some (.cells l (.fam f)) → f < aw.next
  size : base ≤ w.heap.size
  lt : ∀ b e, m b = some e → b < aw.next ∧ e.c < w.heap.size
  base : ∀ b e, m b = some e → base ≤ e.c ∨ ∃ l, aw.heap.get b = some (.cells l .ro)
  blk : ∀ b e x, m b = some e → aw.heap.get b = some x → BR aw m w b e x
  apart : ∀ b e x b' e' x', m b = some e → aw.heap.get b = some x → m b' = some e' → aw.heap.get b' = some x' → aw.live b x = true → aw.live b' x' = true → b ≠ b' → e.c = e'.c → x.mates x' = true
  fam : ∀ f F, aw.fams.get f = some F → F.floor ≤ aw.next ∧ ∀ b e l e' l', m b = some e → aw.heap.get b = some (.cells l (.fam f)) → aw.alive b (.fam f) = true →
    m F.last = some e' → aw.heap.get F.last = some (.cells l' (.fam f)) → e.c = e'.c → e.s + l.length ≤ e'.s + l'.length

/-- what a step keeps. -/
structure Goes (aw aw' : AW) (w w' : World) (m m' : Map) : Prop where
  le : m.le m'
  new : ∀ b e, m' b = some e → m b = some e ∨ (aw.next ≤ b ∧ (w.heap.size ≤ e.c ∨ ∃ b₀ e₀ x, m b₀ = some e₀ ∧ e₀.c = e.c ∧ aw.heap.get b₀ = some x ∧ ∀ l, x ≠ .cells l .ro))
  next : aw.next ≤ aw'.next
  size : w.heap.size ≤ w'.heap.size
  os : w'.os = w.os
  tape : w'.tape = w.tape
  output : w'.output = w.output
  ro : ∀ b l, aw.heap.get b = some (.cells l .ro) → b < aw.next → aw'.heap.get b = some (.cells l .ro)
  roOld : ∀ b l, aw'.heap.get b = some (.cells l .ro) → b < aw.next → ∃ l', aw.heap.get b = some (.cells l' .ro)
  frame : ∀ c, c < w.heap.size → (∀ b e x, m b = some e → aw.heap.get b = some x → (∀ l, x ≠ .cells l .ro) → e.c ≠ c) → w'.heap[c]? = w.heap[c]?
  none : ∀ b, b < aw.next → aw.heap.get b = none → aw'.heap.get b = none
theorem Goes.refl (aw : AW) (w : World) (m : Map) : Goes aw aw w w m m :=
  ⟨.refl m, fun _ _ h => .inl h, Nat.le_refl _, Nat.le_refl _, rfl, rfl, rfl, fun _ _ h _ => h, fun _ l h _ => ⟨l, h⟩, fun _ _ _ => rfl, fun _ _ h => h⟩
/-- what is there to be written behind a step was there ahead of it. -/
theorem Goes.back {aw aw1 : AW} {w w1 : World} {m m1 : Map} (h : Goes aw aw1 w w1 m m1) {b : Nat} {x : Blk} (hb : b < aw.next) (hx : aw1.heap.get b = some x) (hro : ∀ l, x ≠ .cells l .ro) : ∃ y, aw.heap.get b = some y ∧ ∀ l, y ≠ .cells l .ro := by
  cases hg : aw.heap.get b with
  | none => rw [h.none b hb hg] at hx; cases hx
  | some y =>
    refine ⟨y, rfl, fun l hy => ?_⟩
    rw [hy] at hg
    have := h.ro b l hg hb
    rw [hx] at this
    exact hro l (Option.some.inj this)
theorem Goes.trans {aw aw1 aw2 : AW} {w w1 w2 : World} {m m1 m2 : Map} {base : Nat} (hR : R aw w m base) (h : Goes aw aw1 w w1 m m1) (h' : Goes aw1 aw2 w1 w2 m1 m2) : Goes aw aw2 w w2 m m2 where
  le := h.le.trans h'.le
  new b e hb := by
    rcases h'.new b e hb with h1 | ⟨hn, h1 | ⟨b0, e0, x, h1, h2, h3, h4⟩⟩
    · exact h.new b e h1
    · exact .inr ⟨Nat.le_trans h.next hn, .inl (Nat.le_trans h.size h1)⟩
    · refine .inr ⟨Nat.le_trans h.next hn, ?_⟩
      rcases h.new b0 e0 h1 with h5 | ⟨_, h5 | ⟨b1, e1, x1, h5, h6, h7, h8⟩⟩
      · obtain ⟨y, y1, y2⟩ := h.back (hR.lt b0 e0 h5).1 h3 h4
        exact .inr ⟨b0, e0, y, h5, h2, y1, y2⟩
      · exact .inl (by omega)
      · exact .inr ⟨b1, e1, x1, h5, by omega, h7, h8⟩
  next := Nat.le_trans h.next h'.next
  size := Nat.le_trans h.size h'.size
  os := h'.os.trans h.os
  tape := h'.tape.trans h.tape
  output := h'.output.trans h.output
  ro b l hl hb := h'.ro b l (h.ro b l hl hb) (by have := h.next; omega)
  roOld b l hl hb := by
    obtain ⟨l', h1⟩ := h'.roOld b l hl (by have := h.next; omega)
    exact h.roOld b l' h1 hb
  frame c hc hno := by
    rw [h'.frame c (by have := h.size; omega), h.frame c hc hno]
    intro b e x hb hx hro hec
    rcases h.new b e hb with h1 | ⟨_, h1 | ⟨b0, e0, y, h1, h2, h3, h4⟩⟩
    · obtain ⟨y, y1, y2⟩ := h.back (hR.lt b e h1).1 hx hro
      exact hno b e y h1 y1 y2 hec
    · omega
    · exact hno b0 e0 y h1 h3 h4 (by omega)
  none b hb hx := h'.none b (by have := h.next; omega) (h.none b hb hx)
end Go.AE
