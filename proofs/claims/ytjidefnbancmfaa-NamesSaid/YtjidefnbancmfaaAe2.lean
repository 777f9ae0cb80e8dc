/- AE, part 2: the abstract heap, how it stands to the model's, and its steps: reading, writing, laying a new block. -/
import Derived.Test.YtjidefnbancmfaaAe1
set_option linter.unusedVariables false
namespace Go.AE

inductive Share where
  | own
  | fam (f : Nat)
  | ro
  deriving DecidableEq
inductive Blk where
  | cells (l : List V) (sh : Share)
  | map (es : List (V × V × Nat)) (clock : Nat)
  | mapIter (m : Option Nat) (since : Nat) (seen : List Nat) (last : Nat)
structure Fam where
  keep : Nat
  floor : Nat
  last : Nat
structure AW where
  heap : T Blk
  next : Nat
  fams : T Fam
def AW.empty : AW := ⟨.e, 0, .e⟩

def AW.alive (aw : AW) (b : Nat) : Share → Bool
  | .fam f => match aw.fams.get f with
    | some F => Nat.beq b F.keep || Nat.ble F.floor b
    | none => false
  | _ => true

/-- the cells of a block of cells. -/
def CR (m : Map) (l : List V) (s : Nat) (cur : Array Value) : Prop := ∀ (i : Nat) (x : V), l[i]? = some x → ∃ y, cur[s + i]? = some y ∧ VR m x y
theorem CR.mono {m m' : Map} (hm : m.le m') {l : List V} {s : Nat} {cur : Array Value} (h : CR m l s cur) : CR m' l s cur :=
  fun i x hx => let ⟨y, h1, h2⟩ := h i x hx; ⟨y, h1, h2.mono hm⟩
/-- the entries of a map. -/
def ER (m : Map) : List (V × V × Nat) → List MapEntry → Prop
  | [], l => l = []
  | (k, v, n) :: xs, l => ∃ e es, l = e :: es ∧ VR m k e.key ∧ VR m v e.val ∧ e.born = n ∧ ER m xs es
theorem ER.mono {m m' : Map} (hm : m.le m') : ∀ {l : List (V × V × Nat)} {l' : List MapEntry}, ER m l l' → ER m' l l'
  | [], _, h => h
  | (k, v, n) :: xs, _, h => by
    obtain ⟨e, es, h1, h2, h3, h4, h5⟩ := h
    exact ⟨e, es, h1, h2.mono hm, h3.mono hm, h4, ER.mono hm h5⟩
def MR (m : Map) : Option Nat → Option Nat → Prop
  | none, r => r = none
  | some b, r => ∃ e, m b = some e ∧ r = some e.c
theorem MR.mono {m m' : Map} (hm : m.le m') {x r : Option Nat} (h : MR m x r) : MR m' x r := by
  cases x with
  | none => exact h
  | some b => obtain ⟨e, h1, h2⟩ := h; exact ⟨e, hm _ _ h1, h2⟩

/-- what an abstract block says of the model's. -/
def BR (aw : AW) (m : Map) (w : World) (b : Nat) (e : Emb) : Blk → Prop
  | .cells l sh => aw.alive b sh = true → ∃ cur t lo hi, w.heap[e.c]? = some (.cells cur t (lo, hi)) ∧ cur.size = e.tot ∧ e.s + l.length ≤ e.tot ∧ (lo = hi ∨ cur.size ≤ lo) ∧ CR m l e.s cur
  | .map es ck => ∃ es', w.heap[e.c]? = some (.map es' ck) ∧ ER m es es'.toList
  | .mapIter x since seen last => e.s = 0 ∧ ∃ r, w.heap[e.c]? = some (.mapIter r since seen.toArray last) ∧ MR m x r

/-- two abstract blocks may lie in one block of the model's where both are of one family, or both are for reading alone. -/
def Blk.mates : Blk → Blk → Bool
  | .cells _ (.fam f), .cells _ (.fam g) => f == g
  | .cells _ .ro, .cells _ .ro => true
  | _, _ => false
def AW.live (aw : AW) (b : Nat) : Blk → Bool
  | .cells _ sh => aw.alive b sh
  | _ => true

structure R (aw : AW) (w : World) (m : Map) (base : Nat) : Prop where
  famlt : ∀ b e l f, m b = some e → aw.heap.get b = some (.cells l (.fam f)) → f < aw.next
  size : base ≤ w.heap.size
  lt : ∀ b e, m b = some e → b < aw.next ∧ e.c < w.heap.size
  base : ∀ b e, m b = some e → base ≤ e.c ∨ ∃ l, aw.heap.get b = some (.cells l .ro)
  blk : ∀ b e x, m b = some e → aw.heap.get b = some x → BR aw m w b e x
  apart : ∀ b e x b' e' x', m b = some e → aw.heap.get b = some x → m b' = some e' → aw.heap.get b' = some x' → aw.live b x = true → aw.live b' x' = true → b ≠ b' → e.c = e'.c → x.mates x' = true
  fam : ∀ f F, aw.fams.get f = some F → F.floor ≤ aw.next ∧ ∀ b e l e' l', m b = some e → aw.heap.get b = some (.cells l (.fam f)) → aw.alive b (.fam f) = true →
    m F.last = some e' → aw.heap.get F.last = some (.cells l' (.fam f)) → e.c = e'.c → e.s + l.length ≤ e'.s + l'.length

/-- what a step keeps. -/
structure Goes (aw aw' : AW) (w w' : World) (m m' : Map) : Prop where
  le : m.le m'
  new : ∀ b e, m' b = some e → m b = some e ∨ w.heap.size ≤ e.c ∨ ∃ b₀ e₀ , m b₀ = some e₀ ∧ e₀.c = e.c ∧ ∀ l, aw.heap.get b₀ ≠ some (.cells l .ro)
  next : aw.next ≤ aw'.next
  size : w.heap.size ≤ w'.heap.size
  os : w'.os = w.os
  tape : w'.tape = w.tape
  output : w'.output = w.output
  ro : ∀ b l, aw.heap.get b = some (.cells l .ro) → b < aw.next → aw'.heap.get b = some (.cells l .ro)
  roOld : ∀ b l, aw'.heap.get b = some (.cells l .ro) → b < aw.next → ∃ l', aw.heap.get b = some (.cells l' .ro)
  frame : ∀ c, c < w.heap.size → (∀ b e, m b = some e → (∀ l, aw.heap.get b ≠ some (.cells l .ro)) → e.c ≠ c) → w'.heap[c]? = w.heap[c]?
theorem Goes.refl (aw : AW) (w : World) (m : Map) : Goes aw aw w w m m :=
  ⟨.refl m, fun _ _ h => .inl h, Nat.le_refl _, Nat.le_refl _, rfl, rfl, rfl, fun _ _ h _ => h, fun _ l h _ => ⟨l, h⟩, fun _ _ _ => rfl⟩
theorem Goes.trans {aw aw1 aw2 : AW} {w w1 w2 : World} {m m1 m2 : Map} {base : Nat} (hR : R aw w m base) (h : Goes aw aw1 w w1 m m1) (h' : Goes aw1 aw2 w1 w2 m1 m2) : Goes aw aw2 w w2 m m2 where
  le := h.le.trans h'.le
  new b e hb := by
    rcases h'.new b e hb with h1 | h1 | ⟨b0, e0, h1, h2, h3⟩
    · exact h.new b e h1
    · exact .inr (.inl (Nat.le_trans h.size h1))
    · rcases h.new b0 e0 h1 with h4 | h4 | ⟨b1, e1, h4, h5, h6⟩
      · refine .inr (.inr ⟨b0, e0, h4, h2, fun l hl => ?_⟩)
        exact h3 l (h.ro b0 l hl (hR.lt b0 e0 h4).1)
      · exact .inr (.inl (by omega))
      · exact .inr (.inr ⟨b1, e1, h4, by omega, h6⟩)
  next := Nat.le_trans h.next h'.next
  size := Nat.le_trans h.size h'.size
  os := h'.os.trans h.os
  tape := h'.tape.trans h.tape
  output := h'.output.trans h.output
  ro b l hl hb := h'.ro b l (h.ro b l hl hb) (by have := h.next; omega)
  roOld b l hl hb := by
    obtain ⟨l', h1⟩ := h'.roOld b l hl (by have := h.next; omega)
    exact h.roOld b l' h1 hb
  frame c hc hno := by
    rw [h'.frame c (by have := h.size; omega), h.frame c hc hno]
    intro b e hb hro hec
    rcases h.new b e hb with h1 | h1 | ⟨b0, e0, h1, h2, h3⟩
    · refine hno b e h1 (fun l hl => hro l ?_) hec
      exact h.ro b l hl (hR.lt b e h1).1
    · omega
    · exact hno b0 e0 h1 h3 (by omega)
end Go.AE
