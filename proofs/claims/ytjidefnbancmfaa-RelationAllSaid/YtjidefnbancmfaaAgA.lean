/- AE, part 1: tries, abstract values, the relation of abstract values to the model's values. -/
import Derived.WalkKit
import Derived.Orders
import Derived.Scope
import Derived.Laws.StructEq
set_option linter.unusedVariables false
namespace Go.AE

/-! ### A trie over Nat -/
inductive T (α : Type) where
  | e
  | n (l : T α) (v : Option α) (r : T α)
namespace T
variable {α : Type}
def get : T α → Nat → Option α
  | .e, _ => none
  | .n l v r, k => match k with
    | 0 => v
    | k + 1 => match k % 2 with
      | 0 => get l (k / 2)
      | _ => get r (k / 2)
def single : Nat → Nat → α → T α
  | 0, _, _ => .e
  | f + 1, k, x => match k with
    | 0 => .n .e (some x) .e
    | k + 1 => match k % 2 with
      | 0 => .n (single f (k / 2) x) none .e
      | _ => .n .e none (single f (k / 2) x)
def put : T α → Nat → α → T α
  | .e, k, x => single (k + 1) k x
  | .n l v r, k, x => match k with
    | 0 => .n l (some x) r
    | k + 1 => match k % 2 with
      | 0 => .n (put l (k / 2) x) v r
      | _ => .n l v (put r (k / 2) x)
theorem get_e (k : Nat) : (T.e : T α).get k = none := rfl
theorem get_single : ∀ (f k : Nat) (x : α) (j : Nat) (u : α), (single f k x).get j = some u → j = k ∧ u = x := by
  intro f
  induction f with
  | zero => intro k x j u h; simp [single, get] at h
  | succ f ih =>
    intro k x j u h
    cases k with
    | zero =>
      cases j with
      | zero => simp [single, get] at h; exact ⟨rfl, h.symm⟩
      | succ j => simp only [single, get] at h; split at h <;> simp at h
    | succ k =>
      simp only [single] at h
      split at h
      · rename_i hk
        cases j with
        | zero => simp [get] at h
        | succ j =>
          simp only [get] at h
          split at h
          · rename_i hj
            obtain ⟨h1, h2⟩ := ih _ _ _ _ h
            exact ⟨by omega, h2⟩
          · simp at h
      · rename_i hk
        cases j with
        | zero => simp [get] at h
        | succ j =>
          simp only [get] at h
          split at h
          · simp at h
          · rename_i hj
            obtain ⟨h1, h2⟩ := ih _ _ _ _ h
            have hk' : ¬ k % 2 = 0 := hk
            have hj' : ¬ j % 2 = 0 := hj
            exact ⟨by omega, h2⟩
/-- what a put trie tells: the new one, or what the old one told. -/
theorem get_put {t : T α} : ∀ {k : Nat} {x : α} {j : Nat} {u : α}, (t.put k x).get j = some u → (j = k ∧ u = x) ∨ (j ≠ k ∧ t.get j = some u) := by
  induction t with
  | e => intro k x j u h; exact .inl (get_single _ _ _ _ _ h)
  | n l v r ihl ihr =>
    intro k x j u h
    cases k with
    | zero =>
      cases j with
      | zero => simp [put, get] at h; exact .inl ⟨rfl, h.symm⟩
      | succ j => exact .inr ⟨by omega, by simpa [put, get] using h⟩
    | succ k =>
      cases j with
      | zero =>
        refine .inr ⟨by omega, ?_⟩
        simp only [put] at h
        split at h <;> simpa [get] using h
      | succ j =>
        simp only [put] at h
        split at h
        · rename_i hk
          simp only [get] at h ⊢
          split at h
          · rename_i hj
            rcases ihl h with ⟨h1, h2⟩ | ⟨h1, h2⟩
            · exact .inl ⟨by omega, h2⟩
            · exact .inr ⟨by omega, h2⟩
          · rename_i hj
            have hj' : ¬ j % 2 = 0 := hj
            exact .inr ⟨by omega, h⟩
        · rename_i hk
          have hk' : ¬ k % 2 = 0 := hk
          simp only [get] at h ⊢
          split at h
          · rename_i hj
            exact .inr ⟨by omega, h⟩
          · rename_i hj
            have hj' : ¬ j % 2 = 0 := hj
            rcases ihr h with ⟨h1, h2⟩ | ⟨h1, h2⟩
            · exact .inl ⟨by omega, h2⟩
            · exact .inr ⟨by omega, h2⟩
theorem get_single_same : ∀ (f k : Nat) (x : α), k < 2 ^ f - 1 → (single f k x).get k = some x := by
  intro f
  induction f with
  | zero => intro k x h; simp at h
  | succ f ih =>
    intro k x h
    have hp : 2 ^ (f + 1) = 2 * 2 ^ f := by rw [Nat.pow_succ]; omega
    cases k with
    | zero => simp [single, get]
    | succ k =>
      simp only [single]
      have := ih (k / 2) x (by omega)
      split
      · rename_i hk; simp only [get, hk]; exact this
      · rename_i hk
        simp only [get]
        exact this
theorem lt_two_pow (k : Nat) : k < 2 ^ (k + 1) - 1 := by
  have := Nat.lt_two_pow_self (n := k)
  have hp : 2 ^ (k + 1) = 2 * 2 ^ k := by rw [Nat.pow_succ]; omega
  omega
theorem get_put_same {t : T α} : ∀ {k : Nat} {x : α}, (t.put k x).get k = some x := by
  induction t with
  | e => intro k x; exact get_single_same (k + 1) k x (lt_two_pow k)
  | n l v r ihl ihr =>
    intro k x
    cases k with
    | zero => simp [put, get]
    | succ k =>
      simp only [put]
      split
      · rename_i hk; simp only [get, hk]; exact ihl
      · rename_i hk
        simp only [get]
        exact ihr
theorem get_single_ne : ∀ (f k : Nat) (x : α) (j : Nat), j ≠ k → (single f k x).get j = none := by
  intro f k x j h
  cases hg : (single f k x).get j with
  | none => rfl
  | some u => exact absurd (get_single _ _ _ _ _ hg).1 h
theorem get_put_ne {t : T α} : ∀ {k : Nat} {x : α} {j : Nat}, j ≠ k → (t.put k x).get j = t.get j := by
  induction t with
  | e => intro k x j h; exact get_single_ne _ _ _ _ h
  | n l v r ihl ihr =>
    intro k x j h
    cases k with
    | zero =>
      cases j with
      | zero => exact absurd rfl h
      | succ j => simp [put, get]
    | succ k =>
      cases j with
      | zero => simp only [put]; split <;> simp [get]
      | succ j =>
        simp only [put]
        split
        · rename_i hk
          simp only [get]
          split
          · rename_i hj; exact ihl (by omega)
          · rfl
        · rename_i hk
          have hk' : ¬ k % 2 = 0 := hk
          simp only [get]
          split
          · rfl
          · rename_i hj
            have hj' : ¬ j % 2 = 0 := hj
            exact ihr (by omega)
end T

/-! ### Abstract values -/
inductive Cap where
  | known (c : Nat)
  | upTo (esz : Nat)       -- as far as the block goes; elements of so many cells
  deriving DecidableEq
inductive V where
  | undef
  | bool (b : Bool)
  | int (k : IntKind) (n : Int)
  | str (l : List Nat)
  | ptr (b off : Nat)
  | nilptr
  | slice (b off len : Nat) (cap : Cap)
  | nilslice
  | map (b : Nat)
  | nilmap
  | func (fn : Fn) (first captured : List V)
  | nilfunc
  | iface (t : TypeId) (v : V)
  | niliface
  | agg (l : List V)
  | tuple (l : List V)
  deriving Inhabited

/-- where an abstract block lies: the block, the first cell, the block's whole size in cells. -/
structure Emb where
  c : Nat
  s : Nat
  tot : Nat
abbrev Map := Nat → Option Emb

def strL (s : ByteArray) : List Nat := s.data.toList.map UInt8.toNat

mutual
def VR (m : Map) : V → Value → Prop
  | .undef, v => v = undef
  | .bool b, v => v = .bool b
  | .int k n, v => v = .int k n
  | .str l, v => ∃ s, v = .string s ∧ strL s = l
  | .ptr b off, v => ∃ e, m b = some e ∧ v = .pointer (some ⟨e.c, e.s + off, none⟩)
  | .nilptr, v => v = .pointer none
  | .slice b off len cap, v => ∃ e, m b = some e ∧ match cap with
    | .known c => v = .slice (some ⟨e.c, e.s + off, none⟩) len c
    | .upTo esz => ∃ a cp, v = .slice (some a) len cp ∧ len ≤ cp ∧ ((a = ⟨e.c, e.s + off, none⟩ ∧ e.s + off + cp * esz = e.tot) ∨ (cp = 0 ∧ e.s + off = e.tot))
  | .nilslice, v => v = .slice none 0 0
  | .map b, v => ∃ e, m b = some e ∧ v = .map (some e.c)
  | .nilmap, v => v = .map none
  | .func fn f c, v => ∃ f' c', v = .func fn f' c' ∧ VRs m f f'.toList ∧ VRs m c c'.toList
  | .nilfunc, v => v = .nilFunc
  | .iface t x, v => ∃ y, v = .iface t y ∧ VR m x y
  | .niliface, v => v = .nilIface
  | .agg l, v => ∃ a, v = .agg a ∧ VRs m l a.toList
  | .tuple l, v => ∃ a, v = .tuple a ∧ VRs m l a.toList
def VRs (m : Map) : List V → List Value → Prop
  | [], l => l = []
  | x :: xs, l => ∃ y ys, l = y :: ys ∧ VR m x y ∧ VRs m xs ys
end

def Map.le (m m' : Map) : Prop := ∀ b e, m b = some e → m' b = some e
theorem Map.le.refl (m : Map) : m.le m := fun _ _ h => h
theorem Map.le.trans {m m' m'' : Map} (h : m.le m') (h' : m'.le m'') : m.le m'' := fun _ _ h1 => h' _ _ (h _ _ h1)

mutual
theorem VR.mono {m m' : Map} (hm : m.le m') : ∀ {x : V} {v : Value}, VR m x v → VR m' x v := by
  intro x v h
  match x with
  | .undef | .bool _ | .int _ _ | .str _ | .nilptr | .nilslice | .nilmap | .nilfunc | .niliface => exact h
  | .ptr b off => obtain ⟨e, h1, h2⟩ := h; exact ⟨e, hm _ _ h1, h2⟩
  | .slice b off len cap => obtain ⟨e, h1, h2⟩ := h; exact ⟨e, hm _ _ h1, h2⟩
  | .map b => obtain ⟨e, h1, h2⟩ := h; exact ⟨e, hm _ _ h1, h2⟩
  | .func fn f c => obtain ⟨f', c', h1, h2, h3⟩ := h; exact ⟨f', c', h1, VRs.mono hm h2, VRs.mono hm h3⟩
  | .iface t y => obtain ⟨y', h1, h2⟩ := h; exact ⟨y', h1, VR.mono hm h2⟩
  | .agg l => obtain ⟨a, h1, h2⟩ := h; exact ⟨a, h1, VRs.mono hm h2⟩
  | .tuple l => obtain ⟨a, h1, h2⟩ := h; exact ⟨a, h1, VRs.mono hm h2⟩
theorem VRs.mono {m m' : Map} (hm : m.le m') : ∀ {x : List V} {v : List Value}, VRs m x v → VRs m' x v := by
  intro x v h
  match x with
  | [] => exact h
  | x :: xs => obtain ⟨y, ys, h1, h2, h3⟩ := h; exact ⟨y, ys, h1, VR.mono hm h2, VRs.mono hm h3⟩
end

theorem VRs.length {m : Map} : ∀ {l : List V} {l' : List Value}, VRs m l l' → l'.length = l.length
  | [], l', h => by cases h; rfl
  | x :: xs, l', h => by obtain ⟨y, ys, rfl, _, h3⟩ := h; simp [VRs.length h3]
theorem VRs.get {m : Map} : ∀ {l : List V} {l' : List Value}, VRs m l l' → ∀ {i : Nat} {x : V}, l[i]? = some x → ∃ y, l'[i]? = some y ∧ VR m x y
  | [], l', h, i, x, hx => by simp at hx
  | x :: xs, l', h, i, z, hx => by
    obtain ⟨y, ys, rfl, h2, h3⟩ := h
    cases i with
    | zero => simp at hx; subst hx; exact ⟨y, by simp, h2⟩
    | succ i => simp at hx; simpa using VRs.get h3 hx
theorem VRs.of_get {m : Map} : ∀ {l : List V} {l' : List Value}, l'.length = l.length → (∀ (i : Nat) (x : V) (y : Value), l[i]? = some x → l'[i]? = some y → VR m x y) → VRs m l l'
  | [], l', h, _ => by cases l' with | nil => rfl | cons _ _ => simp at h
  | x :: xs, l', h, hg => by
    cases l' with
    | nil => simp at h
    | cons y ys => exact ⟨y, ys, rfl, hg 0 x y (by simp) (by simp), VRs.of_get (by simpa using h) (fun i a b ha hb => hg (i + 1) a b (by simpa using ha) (by simpa using hb))⟩
theorem VRs.append {m : Map} : ∀ {l : List V} {l' : List Value} {k : List V} {k' : List Value}, VRs m l l' → VRs m k k' → VRs m (l ++ k) (l' ++ k')
  | [], l', k, k', h, h' => by cases h; exact h'
  | x :: xs, l', k, k', h, h' => by obtain ⟨y, ys, rfl, h2, h3⟩ := h; exact ⟨y, ys ++ k', rfl, h2, VRs.append h3 h'⟩
end Go.AE

/- AE, part 2: the abstract heap, how it stands to the model's, and its steps: reading, writing, laying a new block. -/
set_option linter.unusedVariables false
namespace Go.AE

inductive Share where
  | own
  | lax
  | fam (f : Nat)
  | ro
  deriving DecidableEq
inductive Blk where
  | cells (l : List V) (sh : Share)
  | map (es : List (V × V × Nat)) (clock : Nat)
  | mapIter (m : Option Nat) (since : Nat) (seen : List Nat) (last : Nat)
structure Fam where
  keep : Nat
  floor : Nat
  last : Nat
structure AW where
  heap : T Blk
  next : Nat
  fams : T Fam
def AW.empty : AW := ⟨.e, 0, .e⟩

def AW.alive (aw : AW) (b : Nat) : Share → Bool
  | .fam f => match aw.fams.get f with
    | some F => Nat.beq b F.keep || Nat.ble F.floor b
    | none => false
  | _ => true

/-- the cells of a block of cells. -/
def CR (m : Map) (l : List V) (s : Nat) (cur : Array Value) : Prop := ∀ (i : Nat) (x : V), l[i]? = some x → ∃ y, cur[s + i]? = some y ∧ VR m x y
theorem CR.mono {m m' : Map} (hm : m.le m') {l : List V} {s : Nat} {cur : Array Value} (h : CR m l s cur) : CR m' l s cur :=
  fun i x hx => let ⟨y, h1, h2⟩ := h i x hx; ⟨y, h1, h2.mono hm⟩
/-- the entries of a map. -/
def ER (m : Map) : List (V × V × Nat) → List MapEntry → Prop
  | [], l => l = []
  | (k, v, n) :: xs, l => ∃ e es, l = e :: es ∧ VR m k e.key ∧ VR m v e.val ∧ e.born = n ∧ ER m xs es
theorem ER.mono {m m' : Map} (hm : m.le m') : ∀ {l : List (V × V × Nat)} {l' : List MapEntry}, ER m l l' → ER m' l l'
  | [], _, h => h
  | (k, v, n) :: xs, _, h => by
    obtain ⟨e, es, h1, h2, h3, h4, h5⟩ := h
    exact ⟨e, es, h1, h2.mono hm, h3.mono hm, h4, ER.mono hm h5⟩
def MR (m : Map) : Option Nat → Option Nat → Prop
  | none, r => r = none
  | some b, r => ∃ e, m b = some e ∧ r = some e.c
theorem MR.mono {m m' : Map} (hm : m.le m') {x r : Option Nat} (h : MR m x r) : MR m' x r := by
  cases x with
  | none => exact h
  | some b => obtain ⟨e, h1, h2⟩ := h; exact ⟨e, hm _ _ h1, h2⟩

/-- what an abstract block says of the model's. -/
def BR (aw : AW) (m : Map) (w : World) (b : Nat) (e : Emb) : Blk → Prop
  | .cells l sh => aw.alive b sh = true → ∃ cur t lo hi, w.heap[e.c]? = some (.cells cur t (lo, hi)) ∧ cur.size = e.tot ∧ e.s + l.length ≤ e.tot ∧ (sh = .ro ∨ lo = hi ∨ (sh ≠ .own ∧ cur.size ≤ lo)) ∧ CR m l e.s cur
  | .map es ck => ∃ es', w.heap[e.c]? = some (.map es' ck) ∧ ER m es es'.toList
  | .mapIter x since seen last => e.s = 0 ∧ ∃ r, w.heap[e.c]? = some (.mapIter r since seen.toArray last) ∧ MR m x r

/-- two abstract blocks may lie in one block of the model's where both are of one family, or both are for reading alone. -/
def Blk.mates : Blk → Blk → Bool
  | .cells _ (.fam f), .cells _ (.fam g) => f == g
  | .cells _ .ro, .cells _ .ro => true
  | _, _ => false
def AW.live (aw : AW) (b : Nat) : Blk → Bool
  | .cells _ sh => aw.alive b sh
  | _ => true

structure R (aw : AW) (w : World) (m : Map) (base : Nat) : Prop where
  famlt : ∀ b e l f, m b = some e → aw.heap.get b = some (.cells l (.fam f)) → f < aw.next
  size : base ≤ w.heap.size
  lt : ∀ b e, m b = some e → b < aw.next ∧ e.c < w.heap.size
  base : ∀ b e, m b = some e → base ≤ e.c ∨ ∃ l, aw.heap.get b = some (.cells l .ro)
  blk : ∀ b e x, m b = some e → aw.heap.get b = some x → BR aw m w b e x
  apart : ∀ b e x b' e' x', m b = some e → aw.heap.get b = some x → m b' = some e' → aw.heap.get b' = some x' → aw.live b x = true → aw.live b' x' = true → b ≠ b' → e.c = e'.c → x.mates x' = true
  fam : ∀ f F, aw.fams.get f = some F → F.floor ≤ aw.next ∧ ∀ b e l e' l', m b = some e → aw.heap.get b = some (.cells l (.fam f)) → aw.alive b (.fam f) = true →
    m F.last = some e' → aw.heap.get F.last = some (.cells l' (.fam f)) → e.c = e'.c → e.s + l.length ≤ e'.s + l'.length

/-- what a step keeps. -/
structure Goes (aw aw' : AW) (w w' : World) (m m' : Map) : Prop where
  le : m.le m'
  new : ∀ b e, m' b = some e → m b = some e ∨ (aw.next ≤ b ∧ (w.heap.size ≤ e.c ∨ ∃ b₀ e₀ x, m b₀ = some e₀ ∧ e₀.c = e.c ∧ aw.heap.get b₀ = some x ∧ ∀ l, x ≠ .cells l .ro))
  next : aw.next ≤ aw'.next
  size : w.heap.size ≤ w'.heap.size
  os : w'.os = w.os
  tape : w'.tape = w.tape
  output : w'.output = w.output
  ro : ∀ b l, aw.heap.get b = some (.cells l .ro) → b < aw.next → aw'.heap.get b = some (.cells l .ro)
  roOld : ∀ b l, aw'.heap.get b = some (.cells l .ro) → b < aw.next → ∃ l', aw.heap.get b = some (.cells l' .ro)
  frame : ∀ c, c < w.heap.size → (∀ b e x, m b = some e → aw.heap.get b = some x → (∀ l, x ≠ .cells l .ro) → e.c ≠ c) → w'.heap[c]? = w.heap[c]?
  none : ∀ b, b < aw.next → aw.heap.get b = none → aw'.heap.get b = none
theorem Goes.refl (aw : AW) (w : World) (m : Map) : Goes aw aw w w m m :=
  ⟨.refl m, fun _ _ h => .inl h, Nat.le_refl _, Nat.le_refl _, rfl, rfl, rfl, fun _ _ h _ => h, fun _ l h _ => ⟨l, h⟩, fun _ _ _ => rfl, fun _ _ h => h⟩
/-- what is there to be written behind a step was there ahead of it. -/
theorem Goes.back {aw aw1 : AW} {w w1 : World} {m m1 : Map} (h : Goes aw aw1 w w1 m m1) {b : Nat} {x : Blk} (hb : b < aw.next) (hx : aw1.heap.get b = some x) (hro : ∀ l, x ≠ .cells l .ro) : ∃ y, aw.heap.get b = some y ∧ ∀ l, y ≠ .cells l .ro := by
  cases hg : aw.heap.get b with
  | none => rw [h.none b hb hg] at hx; cases hx
  | some y =>
    refine ⟨y, rfl, fun l hy => ?_⟩
    rw [hy] at hg
    have := h.ro b l hg hb
    rw [hx] at this
    exact hro l (Option.some.inj this)
theorem Goes.trans {aw aw1 aw2 : AW} {w w1 w2 : World} {m m1 m2 : Map} {base : Nat} (hR : R aw w m base) (h : Goes aw aw1 w w1 m m1) (h' : Goes aw1 aw2 w1 w2 m1 m2) : Goes aw aw2 w w2 m m2 where
  le := h.le.trans h'.le
  new b e hb := by
    rcases h'.new b e hb with h1 | ⟨hn, h1 | ⟨b0, e0, x, h1, h2, h3, h4⟩⟩
    · exact h.new b e h1
    · exact .inr ⟨Nat.le_trans h.next hn, .inl (Nat.le_trans h.size h1)⟩
    · refine .inr ⟨Nat.le_trans h.next hn, ?_⟩
      rcases h.new b0 e0 h1 with h5 | ⟨_, h5 | ⟨b1, e1, x1, h5, h6, h7, h8⟩⟩
      · obtain ⟨y, y1, y2⟩ := h.back (hR.lt b0 e0 h5).1 h3 h4
        exact .inr ⟨b0, e0, y, h5, h2, y1, y2⟩
      · exact .inl (by omega)
      · exact .inr ⟨b1, e1, x1, h5, by omega, h7, h8⟩
  next := Nat.le_trans h.next h'.next
  size := Nat.le_trans h.size h'.size
  os := h'.os.trans h.os
  tape := h'.tape.trans h.tape
  output := h'.output.trans h.output
  ro b l hl hb := h'.ro b l (h.ro b l hl hb) (by have := h.next; omega)
  roOld b l hl hb := by
    obtain ⟨l', h1⟩ := h'.roOld b l hl (by have := h.next; omega)
    exact h.roOld b l' h1 hb
  frame c hc hno := by
    rw [h'.frame c (by have := h.size; omega), h.frame c hc hno]
    intro b e x hb hx hro hec
    rcases h.new b e hb with h1 | ⟨_, h1 | ⟨b0, e0, y, h1, h2, h3, h4⟩⟩
    · obtain ⟨y, y1, y2⟩ := h.back (hR.lt b e h1).1 hx hro
      exact hno b e y h1 y1 y2 hec
    · omega
    · exact hno b0 e0 y h1 h3 h4 (by omega)
  none b hb hx := h'.none b (by have := h.next; omega) (h.none b hb hx)
end Go.AE

/- AE, part 3: a new block; a write; a draw. -/
set_option linter.unusedVariables false
namespace Go.AE

def Map.set (m : Map) (b : Nat) (e : Emb) : Map := fun x => if x = b then some e else m x
theorem Map.set_same (m : Map) (b : Nat) (e : Emb) : m.set b e b = some e := by simp [Map.set]
theorem Map.set_ne (m : Map) {b x : Nat} (e : Emb) (h : x ≠ b) : m.set b e x = m x := by simp [Map.set, h]
theorem Map.le_set {m : Map} {b : Nat} {e : Emb} (h : m b = none) : m.le (m.set b e) := by
  intro x y hx
  by_cases hxb : x = b
  · subst hxb; rw [h] at hx; cases hx
  · rw [Map.set_ne _ _ hxb]; exact hx
theorem Map.set_cases {m : Map} {b x : Nat} {e y : Emb} (h : m.set b e x = some y) : (x = b ∧ y = e) ∨ (x ≠ b ∧ m x = some y) := by
  by_cases hx : x = b
  · subst hx; rw [Map.set_same] at h; exact .inl ⟨rfl, (Option.some.inj h).symm⟩
  · rw [Map.set_ne _ _ hx] at h; exact .inr ⟨hx, h⟩

theorem BR.mono {aw aw' : AW} {m m' : Map} {w w' : World} {b : Nat} {e : Emb} {x : Blk} (hm : m.le m') (ha : ∀ sh l, x = .cells l sh → aw'.alive b sh = true → aw.alive b sh = true)
    (hw : w'.heap[e.c]? = w.heap[e.c]?) (h : BR aw m w b e x) : BR aw' m' w' b e x := by
  cases x with
  | cells l sh =>
    intro hal
    obtain ⟨cur, t, lo, hi, h1, h2, h3, h4, h5⟩ := h (ha sh l rfl hal)
    exact ⟨cur, t, lo, hi, hw.trans h1, h2, h3, h4, h5.mono hm⟩
  | map es ck => obtain ⟨es', h1, h2⟩ := h; exact ⟨es', hw.trans h1, h2.mono hm⟩
  | mapIter y s q l => obtain ⟨h0, r, h1, h2⟩ := h; exact ⟨h0, r, hw.trans h1, h2.mono hm⟩

def AW.new (aw : AW) (x : Blk) : AW := { aw with heap := aw.heap.put aw.next x, next := aw.next + 1 }
/-- a block that is no one else's. -/
def Blk.lone : Blk → Bool
  | .cells _ .own => true
  | .cells _ .lax => true
  | .cells _ _ => false
  | _ => true
theorem heap_new (w : World) (o : Obj) : (w.alloc o).heap[w.heap.size]? = some o := by
  show (w.heap.push o)[w.heap.size]? = _
  simp
theorem heap_old (w : World) (o : Obj) {c : Nat} (h : c < w.heap.size) : (w.alloc o).heap[c]? = w.heap[c]? := by
  show (w.heap.push o)[c]? = _
  rw [Array.getElem?_push, if_neg (by omega)]
theorem alive_new {aw : AW} {x : Blk} {b : Nat} {sh : Share} : (aw.new x).alive b sh = aw.alive b sh := rfl
theorem live_new {aw : AW} {x y : Blk} {b : Nat} : (aw.new x).live b y = aw.live b y := by cases y <;> rfl

/-- A new block. -/
theorem R.new {aw : AW} {w : World} {m : Map} {base : Nat} (hR : R aw w m base) (x : Blk) (o : Obj) (tot : Nat) (hx : x.lone = true)
    (hb : BR (aw.new x) (m.set aw.next ⟨w.heap.size, 0, tot⟩) (w.alloc o) aw.next ⟨w.heap.size, 0, tot⟩ x) :
    R (aw.new x) (w.alloc o) (m.set aw.next ⟨w.heap.size, 0, tot⟩) base ∧ Goes aw (aw.new x) w (w.alloc o) m (m.set aw.next ⟨w.heap.size, 0, tot⟩) := by
  have hnone : m aw.next = none := by
    cases h : m aw.next with
    | none => rfl
    | some e => exact absurd (hR.lt _ _ h).1 (by omega)
  have hle : m.le (m.set aw.next ⟨w.heap.size, 0, tot⟩) := Map.le_set hnone
  have hsz : (w.alloc o).heap.size = w.heap.size + 1 := by simp
  constructor
  · constructor
    · intro b e l f h hy
      rcases Map.set_cases h with ⟨rfl, rfl⟩ | ⟨h1, h2⟩
      · rcases T.get_put hy with ⟨_, q5⟩ | ⟨q3, _⟩
        · subst q5; simp [Blk.lone] at hx
        · exact absurd rfl q3
      · simp only [AW.new] at hy ⊢; rw [T.get_put_ne h1] at hy; have := hR.famlt b e l f h2 hy; omega
    · have := hR.size; omega
    · intro b e h
      rcases Map.set_cases h with ⟨rfl, rfl⟩ | ⟨h1, h2⟩
      · exact ⟨by simp [AW.new], by simp⟩
      · have := hR.lt b e h2; exact ⟨by simp only [AW.new]; omega, by omega⟩
    · intro b e h
      rcases Map.set_cases h with ⟨rfl, rfl⟩ | ⟨h1, h2⟩
      · exact .inl hR.size
      · rcases hR.base b e h2 with h3 | ⟨l, h3⟩
        · exact .inl h3
        · exact .inr ⟨l, by simp only [AW.new]; rw [T.get_put_ne h1]; exact h3⟩
    · intro b e y h hy
      rcases Map.set_cases h with ⟨rfl, rfl⟩ | ⟨h1, h2⟩
      · rcases T.get_put hy with ⟨_, rfl⟩ | ⟨h3, _⟩
        · exact hb
        · exact absurd rfl h3
      · have hy' : aw.heap.get b = some y := by simp only [AW.new] at hy; rw [T.get_put_ne h1] at hy; exact hy
        exact BR.mono hle (fun _ _ _ h => h) (heap_old w o (hR.lt b e h2).2) (hR.blk b e y h2 hy')
    · intro b e y b' e' y' h hy h' hy' hl hl' hne hec
      rcases Map.set_cases h with ⟨rfl, rfl⟩ | ⟨h1, h2⟩
      · rcases Map.set_cases h' with ⟨rfl, rfl⟩ | ⟨h3, h4⟩
        · exact absurd rfl hne
        · have := (hR.lt b' e' h4).2; simp at hec; omega
      · rcases Map.set_cases h' with ⟨rfl, rfl⟩ | ⟨h3, h4⟩
        · have := (hR.lt b e h2).2; simp at hec; omega
        · simp only [AW.new] at hy hy'
          rw [T.get_put_ne h1] at hy
          rw [T.get_put_ne h3] at hy'
          exact hR.apart b e y b' e' y' h2 hy h4 hy' (by rw [live_new] at hl; exact hl) (by rw [live_new] at hl'; exact hl') hne hec
    · intro f F hf
      obtain ⟨h1, h2⟩ := hR.fam f F hf
      refine ⟨by simp only [AW.new]; omega, ?_⟩
      intro b e l e' l' hb1 hb2 hb3 hl1 hl2 hec
      have key : ∀ {b : Nat} {e : Emb} {l : List V}, (m.set aw.next ⟨w.heap.size, 0, tot⟩) b = some e → (aw.new x).heap.get b = some (.cells l (.fam f)) → m b = some e ∧ aw.heap.get b = some (.cells l (.fam f)) := by
        intro b e l q1 q2
        rcases Map.set_cases q1 with ⟨rfl, rfl⟩ | ⟨q3, q4⟩
        · rcases T.get_put q2 with ⟨_, q5⟩ | ⟨q3, _⟩
          · subst q5; simp [Blk.lone] at hx
          · exact absurd rfl q3
        · simp only [AW.new] at q2; rw [T.get_put_ne q3] at q2; exact ⟨q4, q2⟩
      obtain ⟨k1, k2⟩ := key hb1 hb2
      obtain ⟨k3, k4⟩ := key hl1 hl2
      exact h2 b e l e' l' k1 k2 hb3 k3 k4 hec
  · constructor
    · exact hle
    · intro b e h
      rcases Map.set_cases h with ⟨rfl, rfl⟩ | ⟨h1, h2⟩
      · exact .inr ⟨Nat.le_refl _, .inl (Nat.le_refl _)⟩
      · exact .inl h2
    · simp [AW.new]
    · omega
    · rfl
    · rfl
    · rfl
    · intro b l h hlt; simp only [AW.new]; rw [T.get_put_ne (by omega)]; exact h
    · intro b l h hlt; simp only [AW.new] at h; rw [T.get_put_ne (by omega)] at h; exact ⟨l, h⟩
    · intro c hc _; exact heap_old w o hc
    · intro b hlt h; simp only [AW.new]; rw [T.get_put_ne (by omega)]; exact h

/-- A draw. -/
theorem R.drew {aw : AW} {w : World} {m : Map} {base : Nat} (hR : R aw w m base) : R aw w.drew m base :=
  ⟨hR.famlt, hR.size, hR.lt, hR.base, fun b e x h1 h2 => BR.mono (.refl m) (fun _ _ _ h => h) rfl (hR.blk b e x h1 h2), hR.apart, hR.fam⟩
theorem Goes.drew (aw : AW) (w : World) (m : Map) : Goes aw aw w w.drew m m :=
  ⟨.refl m, fun _ _ h => .inl h, Nat.le_refl _, Nat.le_refl _, rfl, rfl, rfl, fun _ _ h _ => h, fun _ l h _ => ⟨l, h⟩, fun _ _ _ => rfl, fun _ _ h => h⟩

/-- an object put in the place of another one. -/
def setObjW (w : World) (c : Nat) (o : Obj) : World := { w with heap := w.heap.setIfInBounds c o }
theorem setObjW_same {w : World} {c : Nat} {o : Obj} (h : c < w.heap.size) : (setObjW w c o).heap[c]? = some o := by simp [setObjW, h]
theorem setObjW_ne {w : World} {c d : Nat} {o : Obj} (h : d ≠ c) : (setObjW w c o).heap[d]? = w.heap[d]? := by
  simp only [setObjW]; exact Array.getElem?_setIfInBounds_ne (Ne.symm h)

def AW.kill (aw : AW) (b : Nat) : Share → T Fam
  | .fam f => aw.fams.put f ⟨b, aw.next, b⟩
  | _ => aw.fams
/-- a block's content turned; where it has mates, they are no more to be read. -/
def AW.turn (aw : AW) (b : Nat) (x : Blk) : AW :=
  { aw with heap := aw.heap.put b x, fams := match x with | .cells _ sh => aw.kill b sh | _ => aw.fams }
def Blk.share : Blk → Option Share
  | .cells _ sh => some sh
  | _ => none

theorem alive_turn {aw : AW} {b b' : Nat} {x : Blk} {sh' : Share} (hlt : b' < aw.next) (hne : b' ≠ b) (h : (aw.turn b x).alive b' sh' = true) :
    aw.alive b' sh' = true ∧ ∀ f, x.share = some (.fam f) → sh' ≠ .fam f := by
  cases sh' with
  | own => exact ⟨rfl, fun f _ h => by cases h⟩
  | lax => exact ⟨rfl, fun f _ h => by cases h⟩
  | ro => exact ⟨rfl, fun f _ h => by cases h⟩
  | fam g =>
    cases x with
    | map es ck => exact ⟨h, fun f hf => by simp [Blk.share] at hf⟩
    | mapIter a c d e => exact ⟨h, fun f hf => by simp [Blk.share] at hf⟩
    | cells l sh =>
      cases sh with
      | own => exact ⟨h, fun f hf => by simp [Blk.share] at hf⟩
      | lax => exact ⟨h, fun f hf => by simp [Blk.share] at hf⟩
      | ro => exact ⟨h, fun f hf => by simp [Blk.share] at hf⟩
      | fam f =>
        simp only [AW.alive, AW.turn, AW.kill] at h
        split at h
        · rename_i F hF
          rcases T.get_put hF with ⟨rfl, rfl⟩ | ⟨h1, h2⟩
          · simp only [Bool.or_eq_true, Nat.ble_eq] at h
            rcases h with h | h
            · exact absurd (Nat.eq_of_beq_eq_true h) hne
            · omega
          · refine ⟨?_, fun f' hf' => ?_⟩
            · simp only [AW.alive, h2]; exact h
            · simp only [Blk.share, Option.some.injEq, Share.fam.injEq] at hf'
              intro hc
              cases hc
              exact h1 hf'.symm
        · cases h

/-- A block is turned. -/
theorem R.turn {aw : AW} {w : World} {m : Map} {base : Nat} (hR : R aw w m base) {b : Nat} {e : Emb} {x y : Blk} {o : Obj} (hm : m b = some e) (hx : aw.heap.get b = some x) (hl : aw.live b x = true)
    (hro : x.share ≠ some .ro) (hs : y.share = x.share) (hb : BR (aw.turn b y) m (setObjW w e.c o) b e y) :
    R (aw.turn b y) (setObjW w e.c o) m base ∧ Goes aw (aw.turn b y) w (setObjW w e.c o) m m := by
  have hlt := hR.lt b e hm
  have hsz : (setObjW w e.c o).heap.size = w.heap.size := by simp [setObjW]
  -- a block beside the turned one that is still to be read lies elsewhere
  have away : ∀ (b' : Nat) (e' : Emb) (z : Blk), m b' = some e' → aw.heap.get b' = some z → (aw.turn b y).live b' z = true → b' ≠ b → aw.live b' z = true ∧ e'.c ≠ e.c := by
    intro b' e' z h1 h2 h3 h4
    have hlt' := (hR.lt b' e' h1).1
    cases z with
    | map es ck =>
      refine ⟨rfl, fun hec => ?_⟩
      have := hR.apart b' e' _ b e x h1 h2 hm hx rfl hl h4 hec
      cases x <;> simp [Blk.mates] at this
    | mapIter r1 r2 r3 r4 =>
      refine ⟨rfl, fun hec => ?_⟩
      have := hR.apart b' e' _ b e x h1 h2 hm hx rfl hl h4 hec
      cases x <;> simp [Blk.mates] at this
    | cells l' sh' =>
      obtain ⟨k1, k2⟩ := alive_turn hlt' h4 h3
      refine ⟨k1, fun hec => ?_⟩
      have hmt := hR.apart b' e' _ b e x h1 h2 hm hx k1 hl h4 hec
      cases x with
      | map es ck => simp [Blk.mates] at hmt
      | mapIter r1 r2 r3 r4 => simp [Blk.mates] at hmt
      | cells l sh =>
        cases sh with
        | own => cases sh' <;> simp [Blk.mates] at hmt
        | lax => cases sh' <;> simp [Blk.mates] at hmt
        | ro => exact hro rfl
        | fam f =>
          cases sh' with
          | own => simp [Blk.mates] at hmt
          | lax => simp [Blk.mates] at hmt
          | ro => simp [Blk.mates] at hmt
          | fam g =>
            simp only [Blk.mates, beq_iff_eq] at hmt
            exact k2 f (by rw [hs]; rfl) (by rw [hmt])
  constructor
  · constructor
    · intro b' e' l f h hy
      by_cases hbb : b' = b
      · subst hbb
        rcases T.get_put hy with ⟨_, h3⟩ | ⟨h3, _⟩
        · cases x with
          | cells lx shx =>
            rw [← h3] at hs
            simp only [Blk.share, Option.some.injEq] at hs
            subst hs
            exact hR.famlt b' e lx f hm hx
          | map es ck => rw [← h3] at hs; simp [Blk.share] at hs
          | mapIter r1 r2 r3 r4 => rw [← h3] at hs; simp [Blk.share] at hs
        · exact absurd rfl h3
      · simp only [AW.turn] at hy ⊢; rw [T.get_put_ne hbb] at hy; exact hR.famlt b' e' l f h hy
    · rw [hsz]; exact hR.size
    · intro b' e' h; rw [hsz]; exact hR.lt b' e' h
    · intro b' e' h
      rcases hR.base b' e' h with h1 | ⟨l, h1⟩
      · exact .inl h1
      · refine .inr ⟨l, ?_⟩
        have hne : b' ≠ b := by
          rintro rfl
          rw [hx] at h1
          cases h1
          exact hro rfl
        simp only [AW.turn]; rw [T.get_put_ne hne]; exact h1
    · intro b' e' z h hz
      by_cases hbb : b' = b
      · subst hbb
        rw [hm] at h; cases h
        rcases T.get_put hz with ⟨_, rfl⟩ | ⟨h3, _⟩
        · exact hb
        · exact absurd rfl h3
      · have hz' : aw.heap.get b' = some z := by simp only [AW.turn] at hz; rw [T.get_put_ne hbb] at hz; exact hz
        have hold := hR.blk b' e' z h hz'
        cases z with
        | cells l' sh' =>
          intro hal
          have ⟨q1, q2⟩ := away b' e' _ h hz' hal hbb
          obtain ⟨cur, t, lo, hi, p1, p2, p3, p4, p5⟩ := hold q1
          exact ⟨cur, t, lo, hi, by rw [setObjW_ne q2]; exact p1, p2, p3, p4, p5⟩
        | map es ck =>
          have ⟨q1, q2⟩ := away b' e' _ h hz' rfl hbb
          obtain ⟨es', p1, p2⟩ := hold
          exact ⟨es', by rw [setObjW_ne q2]; exact p1, p2⟩
        | mapIter r1 r2 r3 r4 =>
          have ⟨q1, q2⟩ := away b' e' _ h hz' rfl hbb
          obtain ⟨p0, r, p1, p2⟩ := hold
          exact ⟨p0, r, by rw [setObjW_ne q2]; exact p1, p2⟩
    · intro b1 e1 z1 b2 e2 z2 h1 hz1 h2 hz2 hl1 hl2 hne hec
      by_cases hb1 : b1 = b
      · subst hb1
        rw [hm] at h1; cases h1
        have hb2 : b2 ≠ b1 := Ne.symm hne
        have hz2' : aw.heap.get b2 = some z2 := by simp only [AW.turn] at hz2; rw [T.get_put_ne hb2] at hz2; exact hz2
        exact absurd hec.symm (away b2 e2 z2 h2 hz2' hl2 hb2).2
      · have hz1' : aw.heap.get b1 = some z1 := by simp only [AW.turn] at hz1; rw [T.get_put_ne hb1] at hz1; exact hz1
        have ⟨q1, q2⟩ := away b1 e1 z1 h1 hz1' hl1 hb1
        by_cases hb2 : b2 = b
        · subst hb2
          rw [hm] at h2; cases h2
          exact absurd hec q2
        · have hz2' : aw.heap.get b2 = some z2 := by simp only [AW.turn] at hz2; rw [T.get_put_ne hb2] at hz2; exact hz2
          have ⟨q3, q4⟩ := away b2 e2 z2 h2 hz2' hl2 hb2
          exact hR.apart b1 e1 z1 b2 e2 z2 h1 hz1' h2 hz2' q1 q3 hne hec
    · intro f F hf
      have step : aw.fams.get f = some F ∨ (F = ⟨b, aw.next, b⟩ ∧ y.share = some (.fam f)) := by
        simp only [AW.turn] at hf
        split at hf
        · rename_i l sh
          cases sh with
          | own => exact .inl hf
          | lax => exact .inl hf
          | ro => exact .inl hf
          | fam g =>
            simp only [AW.kill] at hf
            rcases T.get_put hf with ⟨rfl, rfl⟩ | ⟨_, h2⟩
            · exact .inr ⟨rfl, rfl⟩
            · exact .inl h2
        · exact .inl hf
      have flo : F.floor ≤ (aw.turn b y).next := by
        rcases step with h | ⟨rfl, _⟩
        · exact (hR.fam f F h).1
        · exact Nat.le_refl _
      refine ⟨flo, ?_⟩
      intro b1 e1 l1 e2 l2 h1 hz1 ha1 h2 hz2 hec
      by_cases hlast : b1 = F.last
      · subst hlast
        rw [h1] at h2; cases h2
        rw [hz1] at hz2; cases hz2
        omega
      · -- two unlike blocks of one family: the turned one is none of them, if both are still to be read
        by_cases hyf : y.share = some (.fam f)
        · -- the family is the turned block's: only it is still to be read
          exfalso
          have hb1 : b1 = b := by
            apply Classical.byContradiction
            intro hb1
            exact (alive_turn (hR.lt b1 e1 h1).1 hb1 ha1).2 f hyf rfl
          subst hb1
          rcases step with h | ⟨rfl, _⟩
          · -- F is the new one all the same
            cases y with
            | cells ly shy =>
              simp only [Blk.share, Option.some.injEq] at hyf
              subst hyf
              simp only [AW.turn, AW.kill] at hf
              rcases T.get_put hf with ⟨_, rfl⟩ | ⟨h3, _⟩
              · exact hlast rfl
              · exact h3 rfl
            | map es ck => simp [Blk.share] at hyf
            | mapIter r1 r2 r3 r4 => simp [Blk.share] at hyf
          · exact hlast rfl
        · have hF : aw.fams.get f = some F := by
            rcases step with h | ⟨_, h⟩
            · exact h
            · exact absurd h hyf
          have hb1 : b1 ≠ b := by
            rintro rfl
            rcases T.get_put hz1 with ⟨_, h3⟩ | ⟨h3, _⟩
            · exact hyf (by rw [← h3]; rfl)
            · exact h3 rfl
          have hb2 : F.last ≠ b := by
            intro h
            rw [h] at hz2
            rcases T.get_put hz2 with ⟨_, h3⟩ | ⟨h3, _⟩
            · exact hyf (by rw [← h3]; rfl)
            · exact h3 rfl
          have hz1' : aw.heap.get b1 = some (.cells l1 (.fam f)) := by simp only [AW.turn] at hz1; rw [T.get_put_ne hb1] at hz1; exact hz1
          have hz2' : aw.heap.get F.last = some (.cells l2 (.fam f)) := by simp only [AW.turn] at hz2; rw [T.get_put_ne hb2] at hz2; exact hz2
          exact (hR.fam f F hF).2 b1 e1 l1 e2 l2 h1 hz1' (alive_turn (hR.lt b1 e1 h1).1 hb1 ha1).1 h2 hz2' hec
  · constructor
    · exact .refl m
    · intro b' e' h; exact .inl h
    · exact Nat.le_refl _
    · rw [hsz]; exact Nat.le_refl _
    · rfl
    · rfl
    · rfl
    · intro b' l h _
      have hne : b' ≠ b := by
        rintro rfl
        rw [hx] at h
        cases h
        exact hro rfl
      simp only [AW.turn]; rw [T.get_put_ne hne]; exact h
    · intro b' l h _
      by_cases hne : b' = b
      · subst hne
        rcases T.get_put h with ⟨_, h3⟩ | ⟨h3, _⟩
        · rw [← h3] at hs
          exact absurd hs.symm hro
        · exact absurd rfl h3
      · simp only [AW.turn] at h; rw [T.get_put_ne hne] at h; exact ⟨l, h⟩
    · intro c hc hno
      apply setObjW_ne
      intro hce
      refine hno b e x hm hx (fun l hl' => ?_) hce.symm
      cases hl'
      exact hro rfl
    · intro b' hlt' h
      have hne : b' ≠ b := by
        rintro rfl
        rw [hx] at h
        cases h
      simp only [AW.turn]; rw [T.get_put_ne hne]; exact h
end Go.AE

/- AE, part 4: families: a slice that is appended to, and that may lie where it lay or anew. -/
set_option linter.unusedVariables false
namespace Go.AE

/-- a block of its own becomes the first of a family. -/
def AW.found (aw : AW) (b : Nat) (l : List V) : AW :=
  { heap := aw.heap.put b (.cells l (.fam aw.next)), next := aw.next + 1, fams := aw.fams.put aw.next ⟨b, aw.next + 1, b⟩ }
theorem R.found {aw : AW} {w : World} {m : Map} {base : Nat} (hR : R aw w m base) {b : Nat} {e : Emb} {l : List V} (hm : m b = some e) (hx : aw.heap.get b = some (.cells l .own)) :
    R (aw.found b l) w m base ∧ Goes aw (aw.found b l) w w m m := by
  have hlt := hR.lt b e hm
  have old : ∀ {b' : Nat} {e' : Emb} {z : Blk}, m b' = some e' → b' ≠ b → (aw.found b l).heap.get b' = some z → aw.heap.get b' = some z ∧ ((aw.found b l).live b' z = true → aw.live b' z = true) := by
    intro b' e' z h hne hz
    have hz' : aw.heap.get b' = some z := by simp only [AW.found] at hz; rw [T.get_put_ne hne] at hz; exact hz
    refine ⟨hz', fun hl => ?_⟩
    cases z with
    | cells l' sh' =>
      cases sh' with
      | own => rfl
      | lax => rfl
      | ro => rfl
      | fam g =>
        have hg := hR.famlt b' e' l' g h hz'
        simp only [AW.live, AW.alive, AW.found] at hl ⊢
        rw [T.get_put_ne (by omega)] at hl
        exact hl
    | map es ck => rfl
    | mapIter r1 r2 r3 r4 => rfl
  have self : ∀ {z : Blk}, (aw.found b l).heap.get b = some z → z = .cells l (.fam aw.next) := by
    intro z hz
    rcases T.get_put hz with ⟨_, h3⟩ | ⟨h3, _⟩
    · exact h3
    · exact absurd rfl h3
  constructor
  · constructor
    · intro b' e' l' f h hy
      by_cases hbb : b' = b
      · subst hbb
        have := self hy
        cases this
        simp [AW.found]
      · have := hR.famlt b' e' l' f h (old h hbb hy).1
        simp only [AW.found]; omega
    · exact hR.size
    · intro b' e' h; have := hR.lt b' e' h; exact ⟨by simp only [AW.found]; omega, this.2⟩
    · intro b' e' h
      rcases hR.base b' e' h with h1 | ⟨l', h1⟩
      · exact .inl h1
      · refine .inr ⟨l', ?_⟩
        have hne : b' ≠ b := by
          rintro rfl
          rw [hx] at h1
          cases h1
        simp only [AW.found]; rw [T.get_put_ne hne]; exact h1
    · intro b' e' z h hz
      by_cases hbb : b' = b
      · subst hbb
        rw [hm] at h; cases h
        have := self hz
        subst this
        intro _
        obtain ⟨cur, t, lo, hi, p1, p2, p3, p4, p5⟩ := hR.blk b' e _ hm hx rfl
        exact ⟨cur, t, lo, hi, p1, p2, p3, .inr ((p4.resolve_left (by simp)).imp id (fun h => ⟨by simp, h.2⟩)), p5⟩
      · have ⟨q1, q2⟩ := old h hbb hz
        have hb := hR.blk b' e' z h q1
        cases z with
        | cells l' sh' => exact fun hal => hb (q2 hal)
        | map es ck => exact hb
        | mapIter r1 r2 r3 r4 => exact hb
    · intro b1 e1 z1 b2 e2 z2 h1 hz1 h2 hz2 hl1 hl2 hne hec
      by_cases hb1 : b1 = b
      · exfalso
        subst hb1
        rw [hm] at h1; cases h1
        have ⟨q1, q2⟩ := old h2 (Ne.symm hne) hz2
        have := hR.apart b1 e _ b2 e2 z2 hm hx h2 q1 rfl (q2 hl2) hne hec
        cases z2 <;> simp [Blk.mates] at this
      · by_cases hb2 : b2 = b
        · exfalso
          subst hb2
          rw [hm] at h2; cases h2
          have ⟨q1, q2⟩ := old h1 hb1 hz1
          have := hR.apart b1 e1 z1 b2 e _ h1 q1 hm hx (q2 hl1) rfl hne hec
          cases z1 with
          | cells lx shx => cases shx <;> simp [Blk.mates] at this
          | map es ck => simp [Blk.mates] at this
          | mapIter r1 r2 r3 r4 => simp [Blk.mates] at this
        · have ⟨q1, q2⟩ := old h1 hb1 hz1
          have ⟨q3, q4⟩ := old h2 hb2 hz2
          exact hR.apart b1 e1 z1 b2 e2 z2 h1 q1 h2 q3 (q2 hl1) (q4 hl2) hne hec
    · intro f F hf
      simp only [AW.found] at hf
      rcases T.get_put hf with ⟨rfl, rfl⟩ | ⟨h1, h2⟩
      · refine ⟨by simp [AW.found], ?_⟩
        intro b1 e1 l1 e2 l2 h1 hz1 ha1 h2 hz2 hec
        have hb1 : b1 = b := by
          apply Classical.byContradiction
          intro hb1
          have := hR.famlt b1 e1 l1 _ h1 (old h1 hb1 hz1).1
          omega
        subst hb1
        simp only [] at h2 hz2
        rw [h1] at h2; cases h2
        rw [hz1] at hz2; cases hz2
        omega
      · obtain ⟨k1, k2⟩ := hR.fam f F h2
        refine ⟨by simp only [AW.found]; omega, ?_⟩
        intro b1 e1 l1 e2 l2 g1 hz1 ha1 g2 hz2 hec
        have hb1 : b1 ≠ b := by
          rintro rfl
          have := self hz1
          cases this
          exact h1 rfl
        have hb2 : F.last ≠ b := by
          intro hb
          rw [hb] at hz2
          have := self hz2
          cases this
          exact h1 rfl
        have ⟨q1, q2⟩ := old g1 hb1 hz1
        exact k2 b1 e1 l1 e2 l2 g1 q1 (q2 ha1) g2 (old g2 hb2 hz2).1 hec
  · constructor
    · exact .refl m
    · intro b' e' h; exact .inl h
    · simp [AW.found]
    · exact Nat.le_refl _
    · rfl
    · rfl
    · rfl
    · intro b' l' h _
      have hne : b' ≠ b := by
        rintro rfl
        rw [hx] at h
        cases h
      simp only [AW.found]; rw [T.get_put_ne hne]; exact h
    · intro b' l' h _
      by_cases hne : b' = b
      · subst hne
        have := self h
        cases this
      · simp only [AW.found] at h; rw [T.get_put_ne hne] at h; exact ⟨l', h⟩
    · intro c hc _; rfl
    · intro b' hlt' h
      have hne : b' ≠ b := by
        rintro rfl
        rw [hx] at h
        cases h
      simp only [AW.found]; rw [T.get_put_ne hne]; exact h

theorem R.foundLax {aw : AW} {w : World} {m : Map} {base : Nat} (hR : R aw w m base) {b : Nat} {e : Emb} {l : List V} (hm : m b = some e) (hx : aw.heap.get b = some (.cells l .lax)) :
    R (aw.found b l) w m base ∧ Goes aw (aw.found b l) w w m m := by
  have hlt := hR.lt b e hm
  have old : ∀ {b' : Nat} {e' : Emb} {z : Blk}, m b' = some e' → b' ≠ b → (aw.found b l).heap.get b' = some z → aw.heap.get b' = some z ∧ ((aw.found b l).live b' z = true → aw.live b' z = true) := by
    intro b' e' z h hne hz
    have hz' : aw.heap.get b' = some z := by simp only [AW.found] at hz; rw [T.get_put_ne hne] at hz; exact hz
    refine ⟨hz', fun hl => ?_⟩
    cases z with
    | cells l' sh' =>
      cases sh' with
      | own => rfl
      | lax => rfl
      | ro => rfl
      | fam g =>
        have hg := hR.famlt b' e' l' g h hz'
        simp only [AW.live, AW.alive, AW.found] at hl ⊢
        rw [T.get_put_ne (by omega)] at hl
        exact hl
    | map es ck => rfl
    | mapIter r1 r2 r3 r4 => rfl
  have self : ∀ {z : Blk}, (aw.found b l).heap.get b = some z → z = .cells l (.fam aw.next) := by
    intro z hz
    rcases T.get_put hz with ⟨_, h3⟩ | ⟨h3, _⟩
    · exact h3
    · exact absurd rfl h3
  constructor
  · constructor
    · intro b' e' l' f h hy
      by_cases hbb : b' = b
      · subst hbb
        have := self hy
        cases this
        simp [AW.found]
      · have := hR.famlt b' e' l' f h (old h hbb hy).1
        simp only [AW.found]; omega
    · exact hR.size
    · intro b' e' h; have := hR.lt b' e' h; exact ⟨by simp only [AW.found]; omega, this.2⟩
    · intro b' e' h
      rcases hR.base b' e' h with h1 | ⟨l', h1⟩
      · exact .inl h1
      · refine .inr ⟨l', ?_⟩
        have hne : b' ≠ b := by
          rintro rfl
          rw [hx] at h1
          cases h1
        simp only [AW.found]; rw [T.get_put_ne hne]; exact h1
    · intro b' e' z h hz
      by_cases hbb : b' = b
      · subst hbb
        rw [hm] at h; cases h
        have := self hz
        subst this
        intro _
        obtain ⟨cur, t, lo, hi, p1, p2, p3, p4, p5⟩ := hR.blk b' e _ hm hx rfl
        exact ⟨cur, t, lo, hi, p1, p2, p3, .inr ((p4.resolve_left (by simp)).imp id (fun h => ⟨by simp, h.2⟩)), p5⟩
      · have ⟨q1, q2⟩ := old h hbb hz
        have hb := hR.blk b' e' z h q1
        cases z with
        | cells l' sh' => exact fun hal => hb (q2 hal)
        | map es ck => exact hb
        | mapIter r1 r2 r3 r4 => exact hb
    · intro b1 e1 z1 b2 e2 z2 h1 hz1 h2 hz2 hl1 hl2 hne hec
      by_cases hb1 : b1 = b
      · exfalso
        subst hb1
        rw [hm] at h1; cases h1
        have ⟨q1, q2⟩ := old h2 (Ne.symm hne) hz2
        have := hR.apart b1 e _ b2 e2 z2 hm hx h2 q1 rfl (q2 hl2) hne hec
        cases z2 <;> simp [Blk.mates] at this
      · by_cases hb2 : b2 = b
        · exfalso
          subst hb2
          rw [hm] at h2; cases h2
          have ⟨q1, q2⟩ := old h1 hb1 hz1
          have := hR.apart b1 e1 z1 b2 e _ h1 q1 hm hx (q2 hl1) rfl hne hec
          cases z1 with
          | cells lx shx => cases shx <;> simp [Blk.mates] at this
          | map es ck => simp [Blk.mates] at this
          | mapIter r1 r2 r3 r4 => simp [Blk.mates] at this
        · have ⟨q1, q2⟩ := old h1 hb1 hz1
          have ⟨q3, q4⟩ := old h2 hb2 hz2
          exact hR.apart b1 e1 z1 b2 e2 z2 h1 q1 h2 q3 (q2 hl1) (q4 hl2) hne hec
    · intro f F hf
      simp only [AW.found] at hf
      rcases T.get_put hf with ⟨rfl, rfl⟩ | ⟨h1, h2⟩
      · refine ⟨by simp [AW.found], ?_⟩
        intro b1 e1 l1 e2 l2 h1 hz1 ha1 h2 hz2 hec
        have hb1 : b1 = b := by
          apply Classical.byContradiction
          intro hb1
          have := hR.famlt b1 e1 l1 _ h1 (old h1 hb1 hz1).1
          omega
        subst hb1
        simp only [] at h2 hz2
        rw [h1] at h2; cases h2
        rw [hz1] at hz2; cases hz2
        omega
      · obtain ⟨k1, k2⟩ := hR.fam f F h2
        refine ⟨by simp only [AW.found]; omega, ?_⟩
        intro b1 e1 l1 e2 l2 g1 hz1 ha1 g2 hz2 hec
        have hb1 : b1 ≠ b := by
          rintro rfl
          have := self hz1
          cases this
          exact h1 rfl
        have hb2 : F.last ≠ b := by
          intro hb
          rw [hb] at hz2
          have := self hz2
          cases this
          exact h1 rfl
        have ⟨q1, q2⟩ := old g1 hb1 hz1
        exact k2 b1 e1 l1 e2 l2 g1 q1 (q2 ha1) g2 (old g2 hb2 hz2).1 hec
  · constructor
    · exact .refl m
    · intro b' e' h; exact .inl h
    · simp [AW.found]
    · exact Nat.le_refl _
    · rfl
    · rfl
    · rfl
    · intro b' l' h _
      have hne : b' ≠ b := by
        rintro rfl
        rw [hx] at h
        cases h
      simp only [AW.found]; rw [T.get_put_ne hne]; exact h
    · intro b' l' h _
      by_cases hne : b' = b
      · subst hne
        have := self h
        cases this
      · simp only [AW.found] at h; rw [T.get_put_ne hne] at h; exact ⟨l', h⟩
    · intro c hc _; rfl
    · intro b' hlt' h
      have hne : b' ≠ b := by
        rintro rfl
        rw [hx] at h
        cases h
      simp only [AW.found]; rw [T.get_put_ne hne]; exact h

/-- a family's block has been appended to: a new one of the family. -/
def AW.grow (aw : AW) (b f : Nat) (F : Fam) (l2 : List V) : AW :=
  { heap := aw.heap.put aw.next (.cells l2 (.fam f)), next := aw.next + 1,
    fams := aw.fams.put f (match Nat.beq F.last b with | true => ⟨F.keep, F.floor, aw.next⟩ | false => ⟨b, aw.next, aw.next⟩) }

theorem grow_alive {aw : AW} {b f : Nat} {F : Fam} {l2 : List V} {b' : Nat} {sh : Share} (hF : aw.fams.get f = some F) (hb : aw.alive b (.fam f) = true) (hlt : b' < aw.next)
    (h : (aw.grow b f F l2).alive b' sh = true) : aw.alive b' sh = true ∧ (sh = .fam f → F.last = b ∨ b' = b) := by
  cases sh with
  | own => exact ⟨rfl, fun h => by cases h⟩
  | lax => exact ⟨rfl, fun h => by cases h⟩
  | ro => exact ⟨rfl, fun h => by cases h⟩
  | fam g =>
    simp only [AW.alive, AW.grow] at h
    split at h
    · rename_i G hG
      rcases T.get_put hG with ⟨rfl, rfl⟩ | ⟨h1, h2⟩
      · cases hq : Nat.beq F.last b with
        | true =>
          rw [hq] at h
          refine ⟨?_, fun _ => .inl (Nat.eq_of_beq_eq_true hq)⟩
          simp only [AW.alive, hF]
          exact h
        | false =>
          rw [hq] at h
          simp only [Bool.or_eq_true, Nat.ble_eq] at h
          have : b' = b := by
            rcases h with h | h
            · exact Nat.eq_of_beq_eq_true h
            · omega
          subst this
          exact ⟨hb, fun _ => .inr rfl⟩
      · refine ⟨by simp only [AW.alive, h2]; exact h, fun hc => ?_⟩
        cases hc
        exact absurd rfl h1
    · cases h

theorem R.grow {aw : AW} {w w' : World} {m : Map} {base : Nat} (hR : R aw w m base) {b f : Nat} {e en : Emb} {F : Fam} {l l2 : List V} (hm : m b = some e)
    (hx : aw.heap.get b = some (.cells l (.fam f))) (hal : aw.alive b (.fam f) = true) (hF : aw.fams.get f = some F)
    (hsz : w.heap.size ≤ w'.heap.size) (hen : en.c < w'.heap.size)
    (hos : w'.os = w.os) (htape : w'.tape = w.tape) (hout : w'.output = w.output)
    -- what the block was, and what it is
    (hcase : (en.c = e.c ∧ e.s + l.length ≤ en.s + l2.length ∧ (∀ cur t lo hi, w.heap[e.c]? = some (.cells cur t (lo, hi)) → ∃ cur', w'.heap[e.c]? = some (.cells cur' t (lo, hi)) ∧ cur'.size = cur.size ∧ ∀ i, i < e.s + l.length → cur'[i]? = cur[i]?)) ∨
      (w.heap.size ≤ en.c ∧ w'.heap[e.c]? = w.heap[e.c]?))
    (hoth : ∀ c, c < w.heap.size → c ≠ e.c → w'.heap[c]? = w.heap[c]?)
    (hnew : BR (aw.grow b f F l2) (m.set aw.next en) w' aw.next en (.cells l2 (.fam f))) :
    R (aw.grow b f F l2) w' (m.set aw.next en) base ∧ Goes aw (aw.grow b f F l2) w w' m (m.set aw.next en) := by
  have hnone : m aw.next = none := by
    cases h : m aw.next with
    | none => rfl
    | some e => exact absurd (hR.lt _ _ h).1 (by omega)
  have hle : m.le (m.set aw.next en) := Map.le_set hnone
  have hbl := hR.lt b e hm
  have hfl := hR.famlt b e l f hm hx
  have old : ∀ {b' : Nat} {e' : Emb} {z : Blk}, m b' = some e' → (aw.grow b f F l2).heap.get b' = some z → aw.heap.get b' = some z := by
    intro b' e' z h hz
    have := (hR.lt b' e' h).1
    simp only [AW.grow] at hz; rw [T.get_put_ne (by omega)] at hz; exact hz
  have live : ∀ {b' : Nat} {e' : Emb} {z : Blk}, m b' = some e' → (aw.grow b f F l2).live b' z = true → aw.live b' z = true ∧ (z.share = some (.fam f) → F.last = b ∨ b' = b) := by
    intro b' e' z h hl
    cases z with
    | cells l' sh' =>
      obtain ⟨h1, h2⟩ := grow_alive hF hal (hR.lt b' e' h).1 hl
      refine ⟨h1, fun hs => h2 ?_⟩
      simpa [Blk.share] using hs
    | map es ck => exact ⟨rfl, fun h => by simp [Blk.share] at h⟩
    | mapIter r1 r2 r3 r4 => exact ⟨rfl, fun h => by simp [Blk.share] at h⟩
  -- a mate of b that is still to be read ends where b does, or ahead of it
  have mate : ∀ {b' : Nat} {e' : Emb} {z : Blk}, m b' = some e' → aw.heap.get b' = some z → (aw.grow b f F l2).live b' z = true → e'.c = e.c → ∃ l', z = .cells l' (.fam f) ∧ e'.s + l'.length ≤ e.s + l.length := by
    intro b' e' z h hz hl hec
    obtain ⟨h1, h2⟩ := live h hl
    by_cases hbb : b' = b
    · subst hbb
      rw [hm] at h; cases h
      rw [hx] at hz; cases hz
      exact ⟨l, rfl, Nat.le_refl _⟩
    · have hmt := hR.apart b' e' z b e _ h hz hm hx h1 hal hbb hec
      cases z with
      | cells l' sh' =>
        cases sh' with
        | own => simp [Blk.mates] at hmt
        | lax => simp [Blk.mates] at hmt
        | ro => simp [Blk.mates] at hmt
        | fam g =>
          simp only [Blk.mates, beq_iff_eq] at hmt
          subst hmt
          refine ⟨l', rfl, ?_⟩
          have hlast : F.last = b := (h2 rfl).resolve_right hbb
          have hm' : m F.last = some e := by rw [hlast]; exact hm
          have hx' : aw.heap.get F.last = some (.cells l (.fam g)) := by rw [hlast]; exact hx
          exact (hR.fam g F hF).2 b' e' l' e l h hz h1 hm' hx' hec
      | map es ck => simp [Blk.mates] at hmt
      | mapIter r1 r2 r3 r4 => simp [Blk.mates] at hmt
  have hself : ∀ {z : Blk}, (aw.grow b f F l2).heap.get aw.next = some z → z = .cells l2 (.fam f) := by
    intro z hz
    rcases T.get_put hz with ⟨_, h3⟩ | ⟨h3, _⟩
    · exact h3
    · exact absurd rfl h3
  constructor
  · constructor
    · intro b' e' l' g h hy
      rcases Map.set_cases h with ⟨rfl, rfl⟩ | ⟨h1, h2⟩
      · have := hself hy; cases this; simp only [AW.grow]; omega
      · have := hR.famlt b' e' l' g h2 (old h2 hy); simp only [AW.grow]; omega
    · have := hR.size; omega
    · intro b' e' h
      rcases Map.set_cases h with ⟨rfl, rfl⟩ | ⟨h1, h2⟩
      · exact ⟨by simp [AW.grow], hen⟩
      · have := hR.lt b' e' h2; exact ⟨by simp only [AW.grow]; omega, by omega⟩
    · intro b' e' h
      rcases Map.set_cases h with ⟨rfl, rfl⟩ | ⟨h1, h2⟩
      · rcases hcase with ⟨h1, _⟩ | ⟨h1, _⟩
        · rcases hR.base b e hm with h3 | ⟨l', h3⟩
          · exact .inl (by omega)
          · rw [hx] at h3; cases h3
        · exact .inl (Nat.le_trans hR.size h1)
      · rcases hR.base b' e' h2 with h3 | ⟨l', h3⟩
        · exact .inl h3
        · exact .inr ⟨l', by simp only [AW.grow]; rw [T.get_put_ne h1]; exact h3⟩
    · intro b' e' z h hz
      rcases Map.set_cases h with ⟨rfl, rfl⟩ | ⟨h1, h2⟩
      · have := hself hz; subst this; exact hnew
      · have hz' := old h2 hz
        have hold := hR.blk b' e' z h2 hz'
        have hlt' := hR.lt b' e' h2
        by_cases hec : e'.c = e.c
        · -- it lies where b lies
          rcases hcase with ⟨q1, q2, q3⟩ | ⟨q1, q2⟩
          · cases z with
            | cells l' sh' =>
              intro hl
              obtain ⟨l'', hz2, hle2⟩ := mate h2 hz' hl hec
              cases hz2
              obtain ⟨cur, t, lo, hi, p1, p2, p3, p4, p5⟩ := hold (live (z := .cells l' (.fam f)) h2 hl).1
              rw [hec] at p1
              obtain ⟨cur', r1, r2, r3⟩ := q3 cur t lo hi p1
              refine ⟨cur', t, lo, hi, by rw [hec]; exact r1, by omega, p3, .inr ((p4.resolve_left (by simp)).elim .inl (fun h => .inr ⟨h.1, by omega⟩)), fun i x hi' => ?_⟩
              obtain ⟨y, hy1, hy2⟩ := p5 i x hi'
              have hil : i < l'.length := (List.getElem?_eq_some_iff.1 hi').1
              exact ⟨y, by rw [r3 _ (by omega)]; exact hy1, hy2.mono hle⟩
            | map es ck => obtain ⟨l'', hz2, _⟩ := mate h2 hz' rfl hec; cases hz2
            | mapIter r1 r2 r3 r4 => obtain ⟨l'', hz2, _⟩ := mate h2 hz' rfl hec; cases hz2
          · refine BR.mono hle (fun sh l hz2 hl => ?_) (by rw [hec]; exact q2) hold
            subst hz2
            exact (live (z := .cells l sh) h2 hl).1
        · refine BR.mono hle (fun sh l hz2 hl => ?_) (hoth e'.c hlt'.2 hec) hold
          subst hz2
          exact (live (z := .cells l sh) h2 hl).1
    · intro b1 e1 z1 b2 e2 z2 h1 hz1 h2 hz2 hl1 hl2 hne hec
      rcases Map.set_cases h1 with ⟨rfl, rfl⟩ | ⟨k1, k2⟩
      · have := hself hz1; subst this
        rcases Map.set_cases h2 with ⟨rfl, rfl⟩ | ⟨k3, k4⟩
        · exact absurd rfl hne
        · rcases hcase with ⟨q1, _⟩ | ⟨q1, _⟩
          · obtain ⟨l', hz, _⟩ := mate k4 (old k4 hz2) hl2 (by omega)
            subst hz; simp [Blk.mates]
          · have := (hR.lt b2 e2 k4).2; omega
      · rcases Map.set_cases h2 with ⟨rfl, rfl⟩ | ⟨k3, k4⟩
        · have := hself hz2; subst this
          rcases hcase with ⟨q1, _⟩ | ⟨q1, _⟩
          · obtain ⟨l', hz, _⟩ := mate k2 (old k2 hz1) hl1 (by omega)
            subst hz; simp [Blk.mates]
          · have := (hR.lt b1 e1 k2).2; omega
        · exact hR.apart b1 e1 z1 b2 e2 z2 k2 (old k2 hz1) k4 (old k4 hz2) (live k2 hl1).1 (live k4 hl2).1 hne hec
    · intro g G hG
      simp only [AW.grow] at hG
      rcases T.get_put hG with ⟨rfl, rfl⟩ | ⟨h1, h2⟩
      · have hlast : (match Nat.beq F.last b with | true => (⟨F.keep, F.floor, aw.next⟩ : Fam) | false => ⟨b, aw.next, aw.next⟩).last = aw.next := by split <;> rfl
        have hfl' : (match Nat.beq F.last b with | true => (⟨F.keep, F.floor, aw.next⟩ : Fam) | false => ⟨b, aw.next, aw.next⟩).floor ≤ (aw.grow b g F l2).next := by
          split
          · have := (hR.fam g F hF).1; simp only [AW.grow]; omega
          · simp [AW.grow]
        refine ⟨hfl', ?_⟩
        rw [hlast]
        intro b1 e1 l1 e2 l2' g1 hz1 ha1 g2 hz2 hec
        have h0 := hself hz2
        cases h0
        rw [Map.set_same] at g2
        cases g2
        rcases Map.set_cases g1 with ⟨rfl, rfl⟩ | ⟨k1, k2⟩
        · have := hself hz1; cases this; omega
        · rcases hcase with ⟨q1, q2, _⟩ | ⟨q1, _⟩
          · obtain ⟨l', hz, hle2⟩ := mate k2 (old k2 hz1) ha1 (by omega)
            cases hz
            omega
          · have := (hR.lt b1 e1 k2).2; omega
      · obtain ⟨k1, k2⟩ := hR.fam g G h2
        refine ⟨by simp only [AW.grow]; omega, ?_⟩
        intro b1 e1 l1 e2 l2' g1 hz1 ha1 g2 hz2 hec
        rcases Map.set_cases g1 with ⟨rfl, rfl⟩ | ⟨k3, k4⟩
        · have := hself hz1; cases this; exact absurd rfl h1
        · rcases Map.set_cases g2 with ⟨h5, rfl⟩ | ⟨k5, k6⟩
          · rw [h5] at hz2
            have := hself hz2; cases this; exact absurd rfl h1
          · exact k2 b1 e1 l1 e2 l2' k4 (old k4 hz1) (live (z := .cells l1 (.fam g)) k4 ha1).1 k6 (old k6 hz2) hec
  · constructor
    · exact hle
    · intro b' e' h
      rcases Map.set_cases h with ⟨rfl, rfl⟩ | ⟨h1, h2⟩
      · rcases hcase with ⟨q1, _⟩ | ⟨q1, _⟩
        · exact .inr ⟨Nat.le_refl _, .inr ⟨b, e, _, hm, q1.symm, hx, fun l' hl' => by cases hl'⟩⟩
        · exact .inr ⟨Nat.le_refl _, .inl q1⟩
      · exact .inl h2
    · simp [AW.grow]
    · exact hsz
    · exact hos
    · exact htape
    · exact hout
    · intro b' l' h hlt; simp only [AW.grow]; rw [T.get_put_ne (by omega)]; exact h
    · intro b' l' h hlt; simp only [AW.grow] at h; rw [T.get_put_ne (by omega)] at h; exact ⟨l', h⟩
    · intro c hc hno
      refine hoth c hc (fun hce => ?_)
      exact hno b e _ hm hx (fun l' hl' => by cases hl') hce.symm
    · intro b' hlt h; simp only [AW.grow]; rw [T.get_put_ne (by omega)]; exact h
end Go.AE

/- AE, part 5: the operations on abstract values. -/
set_option linter.unusedVariables false
namespace Go.AE

inductive Opd where
  | tmp (t : Nat)
  | const (v : V)
inductive EqTy where
  | bool | ptr | slice | map | func | iface
  deriving DecidableEq
/-- the kinds of scalars. -/
inductive Sc where
  | int | str | bool
  deriving DecidableEq
/-- how keys are compared: scalars, or a struct's cells one by one. -/
inductive KeyTy where
  | scalar (s : Sc)
  | cells (l : List Sc)
inductive AOp where
  | mov (x : Opd)
  | pick (c a b : Opd)
  | bin (op : BinOp) (x y : Opd)
  | eqv (neg : Bool) (ty : EqTy) (x y : Opd)
  | eqAgg (neg : Bool) (l : List Sc) (x y : Opd)
  | un (op : UnOp) (x : Opd)
  | conv (k : IntKind) (x : Opd)
  | convStr (x : Opd)
  | bytesOf (x : Opd)
  | strOf (x : Opd)
  | nilCheck (x : Opd)
  | fieldAddr (off : Nat) (x : Opd)
  | indexAddr (esz : Nat) (x i : Opd)
  | indexArr (n esz : Nat) (x i : Opd)
  | indexStr (x i : Opd)
  | indexAgg (n esz : Nat) (agg : Bool) (x i : Opd)
  | field (off sz : Nat) (agg : Bool) (x : Opd)
  | load (sz : Nat) (agg : Bool) (a : Opd)
  | store (sz : Nat) (a v : Opd)
  | alloc (zero : List V)
  | box (x : Opd)
  | build (zero : List V) (parts : List (Nat × Nat × Opd))
  | buildSlice (len : Nat) (zero : List V) (parts : List (Nat × Nat × Opd))
  | mkSlice (esz bytes : Nat) (zero : List V) (l c : Opd)
  | slice (esz : Nat) (x : Opd) (lo hi mx : Option Opd)
  | sliceStr (x : Opd) (lo hi : Option Opd)
  | sliceArr (n esz : Nat) (x : Opd) (lo hi mx : Option Opd)
  | mkMap
  | lookup (key : KeyTy) (zero : V) (ok : Bool) (m k : Opd)
  | mapUpdate (key : KeyTy) (m k v : Opd)
  | mapEntry (key : KeyTy) (zero : V) (m k : Opd)
  | entryStore (m s v : Opd)
  | delete (key : KeyTy) (m k : Opd)
  | mkIface (t : TypeId) (x : Opd)
  | typeAssert (t : TypeId) (zero : V) (ok : Bool) (x : Opd)
  | mkFunc (fn : Fn) (first cap : List Opd)
  | extract (i : Nat) (x : Opd)
  | lenStr (x : Opd)
  | lenSl (x : Opd)
  | lenMap (x : Opd)
  | lenArr (n : Nat)
  | cap (x : Opd)
  | mn (xs : List Opd)
  | mx (xs : List Opd)
  | append (esz bytes : Nat) (s x : Opd)
  | copy (esz : Nat) (d s : Opd)
  | clear (zero : List V) (x : Opd)
  | clearMap (x : Opd)
  | call (f : Opd) (args : List Opd)
  | rangeMap (x : Opd)
  | nextMap (x : Opd)
  | stuck

abbrev Fr := T V
def Opd.ev (fr : Fr) : Opd → Option V
  | .tmp t => fr.get t
  | .const v => some v
def evs (fr : Fr) : List Opd → Option (List V)
  | [] => some []
  | x :: xs => match x.ev fr with
    | some v => match evs fr xs with
      | some vs => some (v :: vs)
      | none => none
    | none => none

def V.one : V → Bool
  | .agg _ => false
  | .tuple _ => false
  | .undef => false
  | _ => true
def allOne : List V → Bool
  | [] => true
  | v :: l => match v.one with
    | true => allOne l
    | false => false
def V.cells : V → List V
  | .agg l => l
  | v => [v]

/-! ### Numbers and strings -/
def bitsI (op : BinOp) (k : IntKind) (x y : Int) : Int :=
  let a := BitVec.ofInt k.bits x
  let b := BitVec.ofInt k.bits y
  k.wrap ((match op with | .and => a &&& b | .or => a ||| b | .xor => a ^^^ b | _ => a &&& ~~~b).toNat)
def binI (op : BinOp) (k : IntKind) (a b : Int) : Option V :=
  match op with
  | .add => some (.int k (k.wrap (a + b)))
  | .sub => some (.int k (k.wrap (a - b)))
  | .mul => some (.int k (k.wrap (a * b)))
  | .quo => if b = 0 then none else some (.int k (k.wrap (a.tdiv b)))
  | .rem => if b = 0 then none else some (.int k (a.tmod b))
  | .and => some (.int k (bitsI .and k a b))
  | .or => some (.int k (bitsI .or k a b))
  | .xor => some (.int k (bitsI .xor k a b))
  | .andNot => some (.int k (bitsI .andNot k a b))
  | .eql => some (.bool (a == b))
  | .neq => some (.bool (a != b))
  | .lss => some (.bool (decide (a < b)))
  | .leq => some (.bool (decide (a ≤ b)))
  | .gtr => some (.bool (decide (a > b)))
  | .geq => some (.bool (decide (a ≥ b)))
  | .shl => none
  | .shr => none
def shiftI (op : BinOp) (k : IntKind) (a b : Int) : Option V :=
  if b < 0 then none else
  match op with
  | .shl => some (.int k (k.wrap (a * 2 ^ (min b.toNat k.bits))))
  | .shr => some (.int k (a.fdiv (2 ^ (min b.toNat k.bits))))
  | _ => none
def lessL : List Nat → List Nat → Bool
  | _, [] => false
  | [], _ :: _ => true
  | a :: x, b :: y => Nat.blt a b || (Nat.beq a b && lessL x y)
def eqL : List Nat → List Nat → Bool
  | [], [] => true
  | a :: x, b :: y => Nat.beq a b && eqL x y
  | _, _ => false
def strS (op : BinOp) (a b : List Nat) : Option V :=
  match op with
  | .add => if a.length + b.length ≤ 4611686018427387904 then some (.str (a ++ b)) else none
  | .eql => some (.bool (eqL a b))
  | .neq => some (.bool (!eqL a b))
  | .lss => some (.bool (lessL a b))
  | .leq => some (.bool (lessL a b || eqL a b))
  | .gtr => some (.bool (!(lessL a b || eqL a b)))
  | .geq => some (.bool (!lessL a b))
  | _ => none
def aBin (op : BinOp) : V → V → Option V
  | .int k a, .int k' b => match op with
    | .shl => shiftI .shl k a b
    | .shr => shiftI .shr k a b
    | op => if k = k' then binI op k a b else none
  | .str a, .str b => strS op a b
  | _, _ => none
def eqV : EqTy → V → V → Option Bool
  | .bool, .bool a, .bool b => some (a == b)
  | .ptr, .nilptr, .nilptr => some true
  | .ptr, .nilptr, .ptr _ _ => some false
  | .ptr, .ptr _ _, .nilptr => some false
  | .ptr, .ptr b o, .ptr b' o' => if b = b' then some (Nat.beq o o') else none
  | .slice, .nilslice, .nilslice => some true
  | .slice, .nilslice, .slice _ _ _ _ => some false
  | .slice, .slice _ _ _ _, .nilslice => some false
  | .map, .nilmap, .nilmap => some true
  | .map, .nilmap, .map _ => some false
  | .map, .map _, .nilmap => some false
  | .func, .nilfunc, .nilfunc => some true
  | .func, .nilfunc, .func _ _ _ => some false
  | .func, .func _ _ _, .nilfunc => some false
  | .iface, .niliface, .niliface => some true
  | .iface, .niliface, .iface _ _ => some false
  | .iface, .iface _ _, .niliface => some false
  | _, _, _ => none
def eqScalar : Sc → V → V → Option Bool
  | .int, .int k a, .int k' b => if k = k' then some (a == b) else none
  | .str, .str a, .str b => some (eqL a b)
  | .bool, .bool a, .bool b => some (a == b)
  | _, _, _ => none
def eqCells : List Sc → List V → List V → Option Bool
  | [], [], [] => some true
  | s :: l, a :: x, b :: y => match eqScalar s a b with
    | some true => eqCells l x y
    | some false => some false
    | none => none
  | _, _, _ => none
def aUn (op : UnOp) : V → Option V
  | .int k n => match op with
    | .neg => some (.int k (k.wrap (0 - n)))
    | .xor => some (.int k (bitsI .xor k (if k.signed then -1 else k.max) n))
    | _ => none
  | .bool b => match op with
    | .not => some (.bool (!b))
    | _ => none
  | _ => none

/-! ### Memory -/
/-- cells of a block, from a place on. -/
def takeN : Nat → List V → Option (List V)
  | 0, _ => some []
  | n + 1, v :: l => match takeN n l with
    | some r => some (v :: r)
    | none => none
  | _ + 1, [] => none
def AW.load (aw : AW) (b off n : Nat) : Option (List V) :=
  match aw.heap.get b with
  | some (.cells l sh) => match aw.alive b sh with
    | true => takeN n (l.drop off)
    | false => none
  | _ => none
/-- cells written over. -/
def over : List V → Nat → List V → Option (List V)
  | l, 0, [] => some l
  | _ :: l, 0, v :: vs => match over l 0 vs with
    | some r => some (v :: r)
    | none => none
  | x :: l, off + 1, vs => match over l off vs with
    | some r => some (x :: r)
    | none => none
  | _, _, _ => none
def AW.store (aw : AW) (b off : Nat) (vs : List V) : Option AW :=
  match aw.heap.get b with
  | some (.cells l sh) => match aw.alive b sh, sh, allOne vs with
    | true, .own, true => match over l off vs with
      | some l' => some (aw.turn b (.cells l' sh))
      | none => none
    | true, .lax, true => match over l off vs with
      | some l' => some (aw.turn b (.cells l' sh))
      | none => none
    | true, .fam f, true => match over l off vs with
      | some l' => some (aw.turn b (.cells l' sh))
      | none => none
    | _, _, _ => none
  | _ => none
inductive Res where
  | val (v : V)
  | skip
  | call (f : Nat) (args : List V)
def valOf (o : Option V) (aw : AW) : Option (Res × AW) :=
  match o with
  | some v => some (.val v, aw)
  | none => none
/-- a struct's or an array's part. -/
def partV (l : List V) (off sz : Nat) (agg : Bool) : Option V :=
  match agg with
  | true => match takeN sz (l.drop off) with
    | some r => some (.agg r)
    | none => none
  | false => (l.drop off).head?
def idx : V → Option Nat
  | .int _ (.ofNat n) => some n
  | _ => none
def fillV : List V → List (Nat × Nat × V) → Option (List V)
  | l, [] => some l
  | l, (off, sz, v) :: rest => if v.cells.length = sz then match over l off v.cells with
      | some l' => fillV l' rest
      | none => none
    else none
def evParts (fr : Fr) : List (Nat × Nat × Opd) → Option (List (Nat × Nat × V))
  | [] => some []
  | (o, s, x) :: rest => match x.ev fr with
    | some v => match evParts fr rest with
      | some r => some ((o, s, v) :: r)
      | none => none
    | none => none
def AW.fresh (aw : AW) (l : List V) : AW := aw.new (.cells l .own)
def AW.freshLax (aw : AW) (l : List V) : AW := aw.new (.cells l .lax)
/-- the bounds of a cut: low, high, most. -/
def evOpt (fr : Fr) : Option Opd → Option (Option Nat)
  | none => some none
  | some x => match x.ev fr with
    | some v => match idx v with
      | some n => some (some n)
      | none => none
    | none => none
def capOf (len : Nat) : Cap → Nat
  | .known c => c
  | .upTo _ => len
def sliceV (esz : Nat) (b off len : Nat) (cap : Cap) (lo hi mx : Option Nat) : Option V :=
  match cap with
  | .known c =>
    let m := mx.getD c
    let h := hi.getD len
    let l := lo.getD 0
    if m ≤ c ∧ h ≤ m ∧ l ≤ h ∧ (mx.isSome = true → hi.isSome = true) then some (.slice b (if m = l then off else off + l * esz) (h - l) (.known (m - l))) else none
  | .upTo e =>
    let h := hi.getD len
    let l := lo.getD 0
    match mx with
    | none => if h ≤ len ∧ l ≤ h ∧ e = esz then some (.slice b (off + l * esz) (h - l) (.upTo esz)) else none
    | some m => if m ≤ len ∧ h ≤ m ∧ l ≤ h ∧ l < m ∧ hi.isSome = true then some (.slice b (off + l * esz) (h - l) (.known (m - l))) else none
/-- beyond a slice's end: as far as its block is known. -/
def AW.sliceUp (aw : AW) (esz b off : Nat) (cap : Cap) (lo hi mx : Option Nat) : Option V :=
  match cap, hi, mx with
  | .upTo e, some h, none => match aw.heap.get b with
    | some (.cells l sh) => if aw.alive b sh = true ∧ e = esz ∧ 0 < esz ∧ off + h * esz ≤ l.length ∧ lo.getD 0 < h then some (.slice b (off + lo.getD 0 * esz) (h - lo.getD 0) (.upTo esz)) else none
    | _ => none
  | _, _, _ => none
def AW.sliceW (aw : AW) (esz b off len : Nat) (cap : Cap) (lo hi mx : Option Nat) : Option V :=
  match sliceV esz b off len cap lo hi mx with
  | some v => some v
  | none => aw.sliceUp esz b off cap lo hi mx
def intCells (l : List Nat) : List V := l.map fun c => .int .u8 (Int.ofNat c)
def bytesV : List V → Option (List Nat)
  | [] => some []
  | .int .u8 (.ofNat n) :: l => match Nat.blt n 256, bytesV l with
    | true, some r => some (n :: r)
    | _, _ => none
  | _ :: _ => none
/-- a slice's or a string's elements: how many, and their cells. -/
def AW.elems (aw : AW) (esz : Nat) : V → Option (Nat × List V)
  | .nilslice => some (0, [])
  | .slice b off len _ => match len with
    | 0 => some (0, [])
    | len => match aw.load b off (len * esz) with
      | some l => some (len, l)
      | none => none
  | .str l => if esz = 1 then some (l.length, intCells l) else none
  | _ => none
/-- appended to a slice that goes as far as its block, one of a family's, at the block's end. -/
def AW.appendFam (aw : AW) (esz b off len k : Nat) (news : List V) : Option (V × AW) :=
  match aw.heap.get b with
  | some (.cells l (.fam f)) => match aw.alive b (.fam f), aw.fams.get f, Nat.beq (off + len * esz) l.length with
    | true, some F, true => some (.slice aw.next 0 (len + k) (.upTo esz), aw.grow b f F (l.drop off ++ news))
    | _, _, _ => none
  | _ => none
/-- appended to a slice that goes as far as its block. -/
def AW.appendUp (aw : AW) (esz b off len k : Nat) (news : List V) : Option (V × AW) :=
  match aw.heap.get b with
  | some (.cells l sh) => match Nat.beq (off + len * esz) l.length with
    | true => match sh with
      | .own => (aw.found b l).appendFam esz b off len k news
      | .lax => (aw.found b l).appendFam esz b off len k news
      | _ => aw.appendFam esz b off len k news
    | false => match Nat.ble (off + (len + k) * esz) l.length with
      | true => match aw.store b (off + len * esz) news with
        | some aw' => some (.slice b off (len + k) (.upTo esz), aw')
        | none => none
      | false => none
  | _ => none
def AW.appendV (aw : AW) (esz bytes : Nat) (s : V) (k : Nat) (news : List V) : Option (V × AW) :=
  match k with
  | 0 => match s with
    | .nilslice => some (s, aw)
    | .slice _ _ _ (.upTo _) => some (s, aw)
    | .slice _ _ len (.known c) => if len ≤ c then some (s, aw) else none
    | _ => none
  | k => match s with
    | .nilslice => if k * bytes ≤ 70368744177664 ∧ k ≤ 70368744177664 then some (.slice aw.next 0 k (.upTo esz), aw.fresh news) else none
    | .slice b off len (.known c) =>
      if (len + k) * bytes ≤ 70368744177664 ∧ len + k ≤ 70368744177664 ∧ len ≤ c then
        if len + k ≤ c then match aw.store b (off + len * esz) news with
          | some aw' => some (.slice b off (len + k) (.known c), aw')
          | none => none
        else match aw.elems esz (.slice b off len (.known c)) with
          | some (_, old) => some (.slice aw.next 0 (len + k) (.upTo esz), aw.fresh (old ++ news))
          | none => none
      else none
    | .slice b off len (.upTo e) =>
      if e = esz ∧ (len + k) * bytes ≤ 70368744177664 ∧ len + k ≤ 70368744177664 ∧ allOne news = true ∧ 0 < esz then aw.appendUp esz b off len k news else none
    | _ => none

/-! ### Maps -/
def eqKey : KeyTy → V → V → Option Bool
  | .scalar s, a, b => eqScalar s a b
  | .cells l, .agg x, .agg y => eqCells l x y
  | _, _, _ => none
def findE (t : KeyTy) (k : V) : List (V × V × Nat) → Nat → Option (Option (Nat × V × Nat))
  | [], _ => some none
  | (k', v, n) :: es, i => match eqKey t k k' with
    | some true => some (some (i, v, n))
    | some false => findE t k es (i + 1)
    | none => none
/-- is it a key of that kind at all? -/
def keyOk : KeyTy → V → Bool
  | .scalar .int, .int _ _ => true
  | .scalar .str, .str _ => true
  | .scalar .bool, .bool _ => true
  | .cells l, .agg x => Nat.beq x.length l.length
  | _, _ => false
def AW.entries (aw : AW) : V → Option (Option Nat × List (V × V × Nat) × Nat)
  | .nilmap => some (none, [], 0)
  | .map b => match aw.heap.get b with
    | some (.map es ck) => some (some b, es, ck)
    | _ => none
  | _ => none
def setE (i : Nat) (k v : V) (es : List (V × V × Nat)) : List (V × V × Nat) :=
  match es[i]? with
  | some (_, _, n) => es.set i (k, v, n)
  | none => es

def minL : V → List V → Option V
  | v, [] => some v
  | .int k x, .int _ y :: rest => minL (.int k (if y < x then y else x)) rest
  | _, _ => none
def maxL : V → List V → Option V
  | v, [] => some v
  | .int k x, .int _ y :: rest => maxL (.int k (if x < y then y else x)) rest
  | _, _ => none
/-! ### One operation -/
def aop (o : AOp) (fr : Fr) (aw : AW) : Option (Res × AW) :=
  match o with
  | .stuck => none
  | .mov x => valOf (x.ev fr) aw
  | .pick c a b => match c.ev fr with
    | some (.bool true) => valOf (a.ev fr) aw
    | some (.bool false) => valOf (b.ev fr) aw
    | _ => none
  | .bin op x y => match x.ev fr, y.ev fr with
    | some a, some b => valOf (aBin op a b) aw
    | _, _ => none
  | .eqv neg ty x y => match x.ev fr, y.ev fr with
    | some a, some b => match eqV ty a b with
      | some r => some (.val (.bool (neg != r)), aw)
      | none => none
    | _, _ => none
  | .eqAgg neg l x y => match x.ev fr, y.ev fr with
    | some (.agg a), some (.agg b) => match eqCells l a b with
      | some r => some (.val (.bool (neg != r)), aw)
      | none => none
    | _, _ => none
  | .un op x => match x.ev fr with
    | some a => valOf (aUn op a) aw
    | none => none
  | .conv k x => match x.ev fr with
    | some (.int _ n) => some (.val (.int k (k.wrap n)), aw)
    | _ => none
  | .convStr x => match x.ev fr with
    | some (.str l) => some (.val (.str l), aw)
    | _ => none
  | .bytesOf x => match x.ev fr with
    | some (.str l) => if l.length ≤ 70368744177664 then some (.val (.slice aw.next 0 l.length (.upTo 1)), aw.freshLax (intCells l)) else none
    | _ => none
  | .strOf x => match x.ev fr with
    | some .nilslice => some (.val (.str []), aw)
    | some (.slice b off len cap) => match aw.elems 1 (.slice b off len cap) with
      | some (_, l) => match bytesV l with
        | some cs => some (.val (.str cs), aw)
        | none => none
      | none => none
    | _ => none
  | .nilCheck x => match x.ev fr with
    | some (.ptr b off) => some (.val (.ptr b off), aw)
    | some (.func (.func f) a c) => some (.val (.func (.func f) a c), aw)
    | some (.iface t v) => some (.val (.iface t v), aw)
    | _ => none
  | .fieldAddr off x => match x.ev fr with
    | some (.ptr b o) => some (.val (.ptr b (o + off)), aw)
    | _ => none
  | .indexAddr esz x i => match x.ev fr, i.ev fr with
    | some (.slice b off len _), some iv => match idx iv with
      | some n => if n < len then some (.val (.ptr b (off + n * esz)), aw) else none
      | none => none
    | _, _ => none
  | .indexArr n esz x i => match x.ev fr, i.ev fr with
    | some (.ptr b off), some iv => match idx iv with
      | some j => if j < n then some (.val (.ptr b (off + j * esz)), aw) else none
      | none => none
    | _, _ => none
  | .indexStr x i => match x.ev fr, i.ev fr with
    | some (.str l), some iv => match idx iv with
      | some n => match l[n]? with
        | some c => some (.val (.int .u8 (Int.ofNat c)), aw)
        | none => none
      | none => none
    | _, _ => none
  | .indexAgg n esz agg x i => match x.ev fr, i.ev fr with
    | some (.agg l), some iv => match idx iv with
      | some j => if j < n then valOf (partV l (j * esz) esz agg) aw else none
      | none => none
    | _, _ => none
  | .field off sz agg x => match x.ev fr with
    | some (.agg l) => valOf (partV l off sz agg) aw
    | _ => none
  | .load sz agg a => match a.ev fr with
    | some (.ptr b off) => match agg with
      | true => match aw.load b off sz with
        | some l => some (.val (.agg l), aw)
        | none => none
      | false => match aw.load b off 1 with
        | some [v] => some (.val v, aw)
        | _ => none
    | _ => none
  | .store sz a v => match a.ev fr, v.ev fr with
    | some (.ptr b off), some v => if v.cells.length = sz then match aw.store b off v.cells with
        | some aw' => some (.skip, aw')
        | none => none
      else none
    | _, _ => none
  | .alloc zero => some (.val (.ptr aw.next 0), aw.fresh zero)
  | .box x => match x.ev fr with
    | some v => some (.val (.ptr aw.next 0), aw.fresh v.cells)
    | none => none
  | .build zero parts => match evParts fr parts with
    | some ps => match fillV zero ps with
      | some l => some (.val (.agg l), aw)
      | none => none
    | none => none
  | .buildSlice len zero parts => match evParts fr parts with
    | some ps => match fillV zero ps with
      | some l => some (.val (.slice aw.next 0 len (.known len)), aw.fresh l)
      | none => none
    | none => none
  | .mkSlice esz bytes zero l c => match l.ev fr, c.ev fr with
    | some lv, some cv => match idx lv, idx cv with
      | some l, some c => if l ≤ c ∧ c ≤ 70368744177664 ∧ c * bytes ≤ 70368744177664 then
          some (.val (.slice aw.next 0 l (.known c)), aw.fresh ((List.replicate c zero).flatten))
        else none
      | _, _ => none
    | _, _ => none
  | .slice esz x lo hi mx => match x.ev fr, evOpt fr lo, evOpt fr hi, evOpt fr mx with
    | some (.slice b off len cap), some lo, some hi, some mx => valOf (aw.sliceW esz b off len cap lo hi mx) aw
    | some .nilslice, some lo, some hi, some mx => match lo.getD 0, hi.getD 0, mx.getD 0 with
      | 0, 0, 0 => if mx.isSome = true → hi.isSome = true then some (.val .nilslice, aw) else none
      | _, _, _ => none
    | _, _, _, _ => none
  | .sliceStr x lo hi => match x.ev fr, evOpt fr lo, evOpt fr hi with
    | some (.str s), some lo, some hi =>
      let h := hi.getD s.length
      let l := lo.getD 0
      if h ≤ s.length ∧ l ≤ h then some (.val (.str ((s.drop l).take (h - l))), aw) else none
    | _, _, _ => none
  | .sliceArr n esz x lo hi mx => match x.ev fr, evOpt fr lo, evOpt fr hi, evOpt fr mx with
    | some (.ptr b off), some lo, some hi, some mx => valOf (sliceV esz b off n (.known n) lo hi mx) aw
    | _, _, _, _ => none
  | .mkMap => some (.val (.map aw.next), aw.new (.map [] 0))
  | .lookup t zero ok m k => match m.ev fr, k.ev fr with
    | some m, some k => match aw.entries m, keyOk t k with
      | some (_, es, _), true => match findE t k es 0 with
        | some (some (_, v, _)) => some (.val (match ok with | true => .tuple [v, .bool true] | false => v), aw)
        | some none => some (.val (match ok with | true => .tuple [zero, .bool false] | false => zero), aw)
        | none => none
      | _, _ => none
    | _, _ => none
  | .mapUpdate t m k v => match m.ev fr, k.ev fr, v.ev fr with
    | some m, some k, some v => match aw.entries m, keyOk t k with
      | some (some b, es, ck), true => match findE t k es 0 with
        | some (some (i, _, _)) => some (.skip, aw.turn b (.map (setE i k v es) ck))
        | some none => some (.skip, aw.turn b (.map (es ++ [(k, v, ck)]) (ck + 1)))
        | none => none
      | _, _ => none
    | _, _, _ => none
  | .mapEntry t zero m k => match m.ev fr, k.ev fr with
    | some m, some k => match aw.entries m, keyOk t k with
      | some (some b, es, ck), true => match findE t k es 0 with
        | some (some (i, v, n)) => some (.val (.tuple [v, .int .i64 (Int.ofNat n)]), aw.turn b (.map (setE i k v es) ck))
        | some none => some (.val (.tuple [zero, .int .i64 (Int.ofNat ck)]), aw.turn b (.map (es ++ [(k, zero, ck)]) (ck + 1)))
        | none => none
      | _, _ => none
    | _, _ => none
  | .entryStore m s v => match m.ev fr, s.ev fr, v.ev fr with
    | some m, some s, some v => match aw.entries m, idx s with
      | some (some b, es, ck), some n => match es.findIdx? (fun e => Nat.beq e.2.2 n) with
        | some i => match es[i]? with
          | some (k, _, n) => some (.skip, aw.turn b (.map (es.set i (k, v, n)) ck))
          | none => none
        | none => none
      | _, _ => none
    | _, _, _ => none
  | .delete t m k => match m.ev fr, k.ev fr with
    | some m, some k => match aw.entries m, keyOk t k with
      | some (none, _, _), true => some (.val (.tuple []), aw)
      | some (some b, es, ck), true => match findE t k es 0 with
        | some (some (i, _, _)) => some (.val (.tuple []), aw.turn b (.map (es.eraseIdx i) ck))
        | some none => some (.val (.tuple []), aw.turn b (.map es ck))
        | none => none
      | _, _ => none
    | _, _ => none
  | .mkIface t x => match x.ev fr with
    | some v => some (.val (.iface t v), aw)
    | none => none
  | .typeAssert t zero ok x => match x.ev fr with
    | some (.iface t' v) => match Nat.beq t' t with
      | true => some (.val (match ok with | true => .tuple [v, .bool true] | false => v), aw)
      | false => match ok with
        | true => some (.val (.tuple [zero, .bool false]), aw)
        | false => none
    | some .niliface => match ok with
      | true => some (.val (.tuple [zero, .bool false]), aw)
      | false => none
    | _ => none
  | .mkFunc fn first cap => match evs fr first, evs fr cap with
    | some f, some c => some (.val (.func fn f c), aw)
    | _, _ => none
  | .extract i x => match x.ev fr with
    | some (.tuple l) => valOf (l[i]?) aw
    | _ => none
  | .lenStr x => match x.ev fr with
    | some (.str l) => some (.val (.int .i64 (Int.ofNat l.length)), aw)
    | _ => none
  | .lenSl x => match x.ev fr with
    | some (.slice _ _ n _) => some (.val (.int .i64 (Int.ofNat n)), aw)
    | some .nilslice => some (.val (.int .i64 (Int.ofNat 0)), aw)
    | _ => none
  | .lenMap x => match x.ev fr with
    | some m => match aw.entries m with
      | some (_, es, _) => some (.val (.int .i64 (Int.ofNat es.length)), aw)
      | none => none
    | none => none
  | .lenArr n => some (.val (.int .i64 (Int.ofNat n)), aw)
  | .cap x => match x.ev fr with
    | some (.slice _ _ _ (.known c)) => some (.val (.int .i64 (Int.ofNat c)), aw)
    | some .nilslice => some (.val (.int .i64 (Int.ofNat 0)), aw)
    | _ => none
  | .mn xs => match evs fr xs with
    | some (v :: rest) => valOf (minL v rest) aw
    | _ => none
  | .mx xs => match evs fr xs with
    | some (v :: rest) => valOf (maxL v rest) aw
    | _ => none
  | .append esz bytes s x => match s.ev fr, x.ev fr with
    | some s, some x => match aw.elems esz x with
      | some (k, news) => match aw.appendV esz bytes s k news with
        | some (v, aw') => some (.val v, aw')
        | none => none
      | none => none
    | _, _ => none
  | .copy esz d s => match d.ev fr, s.ev fr with
    | some (.slice b off len _), some s => match aw.elems esz s with
      | some (k, l) => match takeN (min k len * esz) l with
        | some cs => match cs with
          | [] => some (.val (.int .i64 (Int.ofNat (min k len))), aw)
          | cs => match aw.store b off cs with
            | some aw' => some (.val (.int .i64 (Int.ofNat (min k len))), aw')
            | none => none
        | none => none
      | none => none
    | some .nilslice, some s => match aw.elems esz s with
      | some (k, l) => some (.val (.int .i64 0), aw)
      | none => none
    | _, _ => none
  | .clear zero x => match x.ev fr with
    | some .nilslice => some (.val (.tuple []), aw)
    | some (.slice b off len _) => match len with
      | 0 => some (.val (.tuple []), aw)
      | len => match aw.store b off ((List.replicate len zero).flatten) with
        | some aw' => some (.val (.tuple []), aw')
        | none => none
    | _ => none
  | .clearMap x => match x.ev fr with
    | some m => match aw.entries m with
      | some (none, _, _) => some (.val (.tuple []), aw)
      | some (some b, _, ck) => some (.val (.tuple []), aw.turn b (.map [] ck))
      | none => none
    | none => none
  | .call f args => match f.ev fr, evs fr args with
    | some (.func (.func f) first cap), some args => some (.call f (first ++ args ++ cap), aw)
    | _, _ => none
  | .rangeMap x => match x.ev fr with
    | some m => match aw.entries m with
      | some (b, _, ck) => some (.val (.ptr aw.next 0), aw.new (.mapIter b (match b with | some _ => ck | none => 0) [] (match b with | some _ => ck | none => 0)))
      | none => none
    | none => none
  | .nextMap x => match x.ev fr with
    | some (.ptr r 0) => match aw.heap.get r with
      | some (.mapIter none _ _ _) => some (.val (.tuple [.bool false]), aw)
      | some (.mapIter (some b) since seen last) => match aw.heap.get b with
        | some (.map es ck) => match Nat.beq ck last, es with
          | true, [] => some (.val (.tuple [.bool false]), aw)
          | true, [(k, v, n)] => match seen with
            | [] => if n < since then some (.val (.tuple [.bool true, k, v]), aw.turn r (.mapIter (some b) since [n] ck)) else none
            | [q] => if q = n ∧ n < last then some (.val (.tuple [.bool false]), aw) else none
            | _ => none
          | _, _ => none
        | _ => none
      | _ => none
    | _ => none
end Go.AE

/- AE, part 6: the model's code turned into abstract code; its steps as a relation. -/
set_option linter.unusedVariables false
namespace Go.AE

def cV1 : Value → Option V
  | .bool b => some (.bool b)
  | .int k n => some (.int k n)
  | .string s => some (.str (strL s))
  | .pointer none => some .nilptr
  | .slice none 0 0 => some .nilslice
  | .map none => some .nilmap
  | .nilFunc => some .nilfunc
  | .nilIface => some .niliface
  | _ => none
def cVs : List Value → Option (List V)
  | [] => some []
  | v :: l => match cV1 v with
    | some x => match cVs l with
      | some xs => some (x :: xs)
      | none => none
    | none => none
def cV : Value → Option V
  | .agg cs => match cVs cs.toList with
    | some l => some (.agg l)
    | none => none
  | .tuple cs => match cVs cs.toList with
    | some l => some (.tuple l)
    | none => none
  | v => cV1 v
def cOpd : Operand → Option Opd
  | .tmp t => some (.tmp t)
  | .const v => match cV v with
    | some x => some (.const x)
    | none => none
  | .global _ => none
  | .func f => some (.const (.func (.func f) [] []))
def cOpds : List Operand → Option (List Opd)
  | [] => some []
  | o :: l => match cOpd o with
    | some x => match cOpds l with
      | some xs => some (x :: xs)
      | none => none
    | none => none
def cOpt : Option Operand → Option (Option Opd)
  | none => some none
  | some o => match cOpd o with
    | some x => some (some x)
    | none => none
def aggOf (P : Program) (t : TypeId) : Option Bool :=
  match P.underlying t with
  | some (.struct _) => some true
  | some (.array _ _) => some true
  | some _ => some false
  | none => none
def zeroOf (P : Program) (t : TypeId) : Option V :=
  match P.info? t with
  | some i => match i.zero with
    | some z => cV z
    | none => none
  | none => none
def sizeOf? (P : Program) (t : TypeId) : Option Nat :=
  match P.info? t with
  | some i => some i.size
  | none => none
def bytesOf? (P : Program) (t : TypeId) : Option Nat :=
  match P.info? t with
  | some i => some i.bytes
  | none => none
def scTy (P : Program) (t : TypeId) : Option Sc :=
  match P.underlying t with
  | some (.int _) => some .int
  | some .string => some .str
  | some .bool => some .bool
  | _ => none
/-- a struct of scalars, a cell each, in their order; a name '_' is none. -/
def scFields (P : Program) : List Field → Nat → Option (List Sc)
  | [], _ => some []
  | f :: fs, n => match f.name != "_", Nat.beq f.offset n, scTy P f.type, scFields P fs (n + 1) with
    | true, true, some s, some r => some (s :: r)
    | _, _, _, _ => none
def keyTy (P : Program) (t : TypeId) : Option KeyTy :=
  match P.underlying t with
  | some (.int _) => some (.scalar .int)
  | some .string => some (.scalar .str)
  | some .bool => some (.scalar .bool)
  | some (.struct fs) => match P.stoodInHeld t, scFields P fs.toList 0 with
    | false, some l => some (.cells l)
    | _, _ => none
  | _ => none
def cParts (place : Nat → Option (Nat × Nat)) : List (Nat × Operand) → Option (List (Nat × Nat × Opd))
  | [] => some []
  | (i, o) :: l => match place i, cOpd o with
    | some (off, sz), some x => match cParts place l with
      | some r => some ((off, sz, x) :: r)
      | none => none
    | _, _ => none
def fieldPlaces (P : Program) : List Field → Option (List (Nat × Nat))
  | [] => some []
  | f :: fs => match sizeOf? P f.type, fieldPlaces P fs with
    | some s, some r => some ((f.offset, s) :: r)
    | _, _ => none
def isNilIface : Operand → Bool
  | .const .nilIface => true
  | _ => false
def cBin (P : Program) (op : BinOp) (t : TypeId) (x y : Operand) : Option AOp :=
  match cOpd x, cOpd y with
  | some a, some b =>
    match P.underlying t with
    | some (.int _) => some (.bin op a b)
    | some .string => some (.bin op a b)
    | some d =>
      match (match op with | .eql => some false | .neq => some true | _ => none : Option Bool) with
      | none => none
      | some neg =>
        match d with
        | .bool => some (.eqv neg .bool a b)
        | .pointer e => match sizeOf? P e with
          | some (_ + 1) => some (.eqv neg .ptr a b)
          | _ => none
        | .slice _ => some (.eqv neg .slice a b)
        | .map _ _ => some (.eqv neg .map a b)
        | .func _ _ _ => some (.eqv neg .func a b)
        | .interface _ => if isNilIface x || isNilIface y then some (.eqv neg .iface a b) else none
        | .struct fs => match P.stoodInHeld t, P.eqGuardType P.depth t, scFields P fs.toList 0 with
          | false, false, some l => some (.eqAgg neg l a b)
          | _, _, _ => none
        | _ => none
    | none => none
  | _, _ => none
def cBuiltin (P : Program) (b : Builtin) (ts : List TypeId) (args : List Operand) : Option AOp :=
  match b, ts, args with
  | .len, [t], [x] => match cOpd x with
    | some a => match P.underlying t with
      | some .string => some (.lenStr a)
      | some (.slice _) => some (.lenSl a)
      | some (.map _ _) => some (.lenMap a)
      | some (.array n _) => some (.lenArr n)
      | _ => none
    | none => none
  | .cap, [t], [x] => match cOpd x with
    | some a => match P.underlying t with
      | some (.slice _) => some (.cap a)
      | _ => none
    | none => none
  | .append, [t, u], [s, x] => match cOpd s, cOpd x with
    | some a, some b => match P.underlying t, P.underlying u with
      | some (.slice e), some d => match d with
        | .int _ => none
        | _ => match P.info? e with
          | some i => match i.zero with
            | some z => if z.cells.size = i.size then some (.append i.size i.bytes a b) else none
            | none => none
          | none => none
      | _, _ => none
    | _, _ => none
  | .copy, t :: _, [d, s] => match cOpd d, cOpd s with
    | some a, some b => match P.underlying t with
      | some (.slice e) => match sizeOf? P e with
        | some n => some (.copy n a b)
        | none => none
      | _ => none
    | _, _ => none
  | .clear, t :: _, [x] => match cOpd x with
    | some a => match P.underlying t with
      | some (.slice e) => match zeroOf P e with
        | some z => some (.clear z.cells a)
        | none => none
      | some (.map _ _) => some (.clearMap a)
      | _ => none
    | none => none
  | .min, _, xs => match cOpds xs with
    | some as => some (.mn as)
    | none => none
  | .max, _, xs => match cOpds xs with
    | some as => some (.mx as)
    | none => none
  | .delete, t :: _, [m, k] => match cOpd m, cOpd k with
    | some a, some b => match P.underlying t with
      | some (.map kt _) => match keyTy P kt with
        | some ty => some (.delete ty a b)
        | none => none
      | _ => none
    | _, _ => none
  | _, _, _ => none
def cOp (P : Program) (o : Op) : Option AOp :=
  match o with
  | .move x => match cOpd x with | some a => some (.mov a) | none => none
  | .assign x => match cOpd x with | some a => some (.mov a) | none => none
  | .pick c x y => match cOpd c, cOpd x, cOpd y with
    | some c, some a, some b => some (.pick c a b)
    | _, _, _ => none
  | .binOp op t x y _ => cBin P op t x y
  | .unOp op _ x => match cOpd x with | some a => some (.un op a) | none => none
  | .convert src dst x => match cOpd x with
    | some a => match P.underlying src, P.underlying dst with
      | some (.int _), some (.int k) => some (.conv k a)
      | some .string, some .string => some (.convStr a)
      | some .string, some (.slice e) => match P.underlying e with
        | some (.int .u8) => some (.bytesOf a)
        | _ => none
      | some (.slice e), some .string => match P.underlying e with
        | some (.int .u8) => some (.strOf a)
        | _ => none
      | _, _ => none
    | none => none
  | .nilCheck x => match cOpd x with | some a => some (.nilCheck a) | none => none
  | .fieldAddr s x f => match cOpd x with
    | some a => match P.underlying s with
      | some (.struct fs) => match fs[f]? with
        | some fd => match sizeOf? P fd.type with
          | some (_ + 1) => some (.fieldAddr fd.offset a)
          | _ => none
        | none => none
      | _ => none
    | none => none
  | .indexAddr t x i => match cOpd x, cOpd i with
    | some a, some b => match P.underlying t with
      | some (.slice e) => match sizeOf? P e with
        | some n => some (.indexAddr n a b)
        | none => none
      | some (.array k e) => match sizeOf? P e with
        | some n => some (.indexArr k n a b)
        | none => none
      | _ => none
    | _, _ => none
  | .index t x i => match cOpd x, cOpd i with
    | some a, some b => match P.underlying t with
      | some .string => some (.indexStr a b)
      | some (.array k e) => match sizeOf? P e, aggOf P e with
        | some n, some g => some (.indexAgg k n g a b)
        | _, _ => none
      | _ => none
    | _, _ => none
  | .field t x f => match cOpd x with
    | some a => match P.underlying t with
      | some (.struct fs) => match fs[f]? with
        | some fd => match sizeOf? P fd.type, aggOf P fd.type with
          | some n, some g => some (.field fd.offset n g a)
          | _, _ => none
        | none => none
      | _ => none
    | none => none
  | .load t x => match cOpd x with
    | some a => match sizeOf? P t, aggOf P t with
      | some n, some g => some (.load n g a)
      | _, _ => none
    | none => none
  | .store t x v => match cOpd x, cOpd v with
    | some a, some b => match sizeOf? P t with
      | some n => some (.store n a b)
      | none => none
    | _, _ => none
  | .alloc t => match zeroOf P t with
    | some z => some (.alloc z.cells)
    | none => none
  | .box _ x => match cOpd x with | some a => some (.box a) | none => none
  | .build t parts => match zeroOf P t with
    | some z => match P.underlying t with
      | some (.struct fs) => match fieldPlaces P fs.toList with
        | some ps => match cParts (ps[·]?) parts.toList with
          | some r => some (.build z.cells r)
          | none => none
        | none => none
      | some (.array _ e) => match sizeOf? P e with
        | some n => match cParts (fun i => some (i * n, n)) parts.toList with
          | some r => some (.build z.cells r)
          | none => none
        | none => none
      | _ => none
    | none => none
  | .buildSlice t len parts => match P.underlying t with
    | some (.slice e) => match P.info? e with
      | some i => if len * i.size ≤ 16777216 then
          if len * i.size = 0 then match cParts (fun j => some (j * i.size, i.size)) parts.toList with
            | some r => some (.buildSlice len [] r)
            | none => none
          else match zeroOf P e with
            | some z => if z.cells.length = i.size then match cParts (fun j => some (j * i.size, i.size)) parts.toList with
                | some r => some (.buildSlice len ((List.replicate len z.cells).flatten) r)
                | none => none
              else none
            | none => none
        else none
      | none => none
    | _ => none
  | .makeSlice t l c => match cOpd l, cOpd c with
    | some a, some b => match P.underlying t with
      | some (.slice e) => match P.info? e, zeroOf P e with
        | some i, some z => if z.cells.length = i.size ∧ 0 < i.size then some (.mkSlice i.size i.bytes z.cells a b) else none
        | _, _ => none
      | _ => none
    | _, _ => none
  | .slice t x lo hi mx => match cOpd x, cOpt lo, cOpt hi, cOpt mx with
    | some a, some lo, some hi, some mx => match P.underlying t with
      | some .string => match mx with
        | none => some (.sliceStr a lo hi)
        | some _ => none
      | some (.slice e) => match sizeOf? P e with
        | some n => some (.slice n a lo hi mx)
        | none => none
      | some (.array k e) => match sizeOf? P e with
        | some n => some (.sliceArr k n a lo hi mx)
        | none => none
      | _ => none
    | _, _, _, _ => none
  | .makeMap _ none => some .mkMap
  | .lookup t x k ok => match cOpd x, cOpd k with
    | some a, some b => match P.underlying t with
      | some (.map kt e) => match keyTy P kt, zeroOf P e with
        | some ty, some z => some (.lookup ty z ok a b)
        | _, _ => none
      | _ => none
    | _, _ => none
  | .mapUpdate t m k v => match cOpd m, cOpd k, cOpd v with
    | some a, some b, some c => match P.underlying t with
      | some (.map kt _) => match keyTy P kt with
        | some ty => some (.mapUpdate ty a b c)
        | none => none
      | _ => none
    | _, _, _ => none
  | .insert t m k v => match cOpd m, cOpd k, cOpd v with
    | some a, some b, some c => match P.underlying t with
      | some (.map kt _) => match keyTy P kt with
        | some ty => some (.mapUpdate ty a b c)
        | none => none
      | _ => none
    | _, _, _ => none
  | .mapEntry t m k => match cOpd m, cOpd k with
    | some a, some b => match P.underlying t with
      | some (.map kt e) => match keyTy P kt, zeroOf P e with
        | some ty, some z => some (.mapEntry ty z a b)
        | _, _ => none
      | _ => none
    | _, _ => none
  | .entryStore _ m s v => match cOpd m, cOpd s, cOpd v with
    | some a, some b, some c => some (.entryStore a b c)
    | _, _, _ => none
  | .makeInterface t x => match cOpd x with
    | some a => match P.underlying t with
      | some (.interface _) => none
      | some _ => some (.mkIface t a)
      | none => none
    | none => none
  | .typeAssert x _ t ok => match cOpd x with
    | some a => match P.underlying t, zeroOf P t with
      | some (.interface _), _ => none
      | some _, some z => some (.typeAssert t z ok a)
      | _, _ => none
    | none => none
  | .makeFunc fn first cap => match cOpds first.toList, cOpds cap.toList with
    | some f, some c => some (.mkFunc fn f c)
    | _, _ => none
  | .extract x i => match cOpd x with | some a => some (.extract i a) | none => none
  | .call c => match c.callee with
    | .value f => match cOpd f, cOpds c.args.toList with
      | some a, some as => some (.call a as)
      | _, _ => none
    | .builtin b => cBuiltin P b c.argTypes.toList c.args.toList
    | .invoke _ _ => none
  | .range t x => match cOpd x with
    | some a => match P.underlying t with
      | some (.map _ _) => some (.rangeMap a)
      | _ => none
    | none => none
  | .next x false => match cOpd x with
    | some a => some (.nextMap a)
    | none => none
  | _ => none

structure AOper where
  dst : Option Nat
  guard : Option (Nat × Bool)
  op : AOp
/-- an operation of a region whose order is drawn: what comes ahead of it in each order; the temporaries that it must not look at. -/
structure DOper where
  op : AOper
  eff : Bool
  anc : List Nat
  hide : List Nat
inductive ARes where
  | tmp (t : Nat)
  | cell (a sz : Nat) (agg : Bool)
inductive ACode where
  | skip
  | region (ops : List AOper)
  | drawn (ops : List DOper)
  | seq (a b : ACode)
  | cond (c : Opd) (thn els : ACode)
  | block (id : Nat) (body : ACode)
  | loop (body : ACode)
  | exit (id : Nat)
  | scope (body : ACode)
  | ret
structure AFun where
  ntmps : Nat
  results : List ARes
  body : ACode

/-- what is not known gets stuck. -/
def cOpS (P : Program) (o : Op) : Option AOp :=
  match cOp P o with
  | some a => some a
  | none => some .stuck
def cGuard (ops : Array Oper) : Option (Nat × Bool) → Option (Option (Nat × Bool))
  | none => some none
  | some (j, b) => match ops[j]? with
    | some o => match o.dst with
      | some d => some (some (d, b))
      | none => none
    | none => none
def dstOk (N : Nat) : Option Nat → Bool
  | none => true
  | some d => Nat.blt d N
def cOper (P : Program) (N : Nat) (ops : Array Oper) (o : Oper) : Option AOper :=
  match cGuard ops o.guard, cOpS P o.op, dstOk N o.dst with
  | some g, some a, true => some ⟨o.dst, g, a⟩
  | _, _, _ => none
def cOpers (P : Program) (N : Nat) (ops : Array Oper) : List Oper → Option (List AOper)
  | [] => some []
  | o :: l => match cOper P N ops o with
    | some a => match cOpers P N ops l with
      | some r => some (a :: r)
      | none => none
    | none => none
/-- operations that leave the memory as it is. -/
def AOp.quiet : AOp → Bool
  | .mov _ | .pick .. | .bin .. | .eqv .. | .eqAgg .. | .un .. | .conv .. | .convStr _ | .strOf _ | .nilCheck _ | .fieldAddr .. | .indexAddr .. | .indexArr .. | .indexStr .. | .indexAgg .. | .field .. | .load ..
  | .build .. | .slice .. | .sliceStr .. | .sliceArr .. | .lookup .. | .mkIface .. | .typeAssert .. | .mkFunc .. | .extract .. | .lenStr _ | .lenSl _ | .lenMap _ | .lenArr _ | .cap _ | .mn _ | .mx _ => true
  | _ => false
def memN (x : Nat) : List Nat → Bool
  | [] => false
  | y :: l => match Nat.beq x y with
    | true => true
    | false => memN x l
def addN (l : List Nat) : List Nat → List Nat
  | [] => l
  | x :: r => match memN x l with
    | true => addN l r
    | false => addN (x :: l) r
/-- all that comes ahead, of what comes next ahead. -/
def ancOf (done : List (List Nat)) : List Nat → List Nat
  | [] => []
  | a :: r => addN (addN (ancOf done r) [a]) (done.getD a [])
def ancAll : List (List Nat) → List (List Nat) → List (List Nat)
  | [], done => done
  | af :: r, done => ancAll r (done ++ [ancOf done af])
def hideOf (l : List AOper) (ancs : List (List Nat)) (i : Nat) (anc : List Nat) : List Nat :=
  (List.range l.length).filterMap fun k => match l[k]? with
    | some o => match o.dst with
      | some d => match Nat.beq k i || memN k anc || memN i (ancs.getD k []) with
        | true => none
        | false => some d
      | none => none
    | none => none
def dPair (i : Nat) (x : DOper) (j : Nat) (y : DOper) : Bool :=
  (match memN i y.anc with
   | true => true
   | false => !(x.eff && y.eff) && (match y.op.dst with | some d => memN d x.hide | none => true) && (match x.op.dst with | some d => memN d y.hide | none => true)) &&
  (match x.op.dst, y.op.dst with
   | some d, some d' => !Nat.beq d d'
   | _, _ => true)
def dOne (l : List DOper) (j : Nat) (y : DOper) (af : List Nat) : Bool :=
  af.all (fun a => Nat.blt a j) && y.anc.all (fun x => Nat.blt x j && (memN x af || af.any fun k => match l[k]? with | some z => memN x z.anc | none => false)) && (y.eff || y.op.op.quiet)
def dOK (l : List DOper) (afters : List (List Nat)) : Bool :=
  (List.range l.length).all fun j => match l[j]?, afters[j]? with
    | some y, some af => dOne l j y af && (List.range j).all fun i => match l[i]? with
      | some x => dPair i x j y
      | none => false
    | _, _ => false
def aftersOf (ops : Array Oper) : List (List Nat) := ops.toList.map fun o => (o.after.toList.filter (Region.binds .any)).map (·.on)
def cDrawn (P : Program) (N : Nat) (ops : Array Oper) : Option (List DOper) :=
  match cOpers P N ops ops.toList with
  | some l =>
    let ancs := ancAll (aftersOf ops) []
    let d := (l.zip ancs).zipIdx.map fun ((o, anc), i) => (⟨o, !o.op.quiet, anc, hideOf l ancs i anc⟩ : DOper)
    match Nat.beq d.length ops.size && dOK d (aftersOf ops) with
    | true => some d
    | false => none
  | none => none
def cCode (P : Program) (N : Nat) : Code → Option ACode
  | .skip => some .skip
  | .region _ ops false => match cOpers P N ops ops.toList with
    | some l => some (.region l)
    | none => none
  | .region _ ops true => match cDrawn P N ops with
    | some l => some (.drawn l)
    | none => none
  | .seq a b => match cCode P N a, cCode P N b with
    | some x, some y => some (.seq x y)
    | _, _ => none
  | .cond c a b => match cOpd c, cCode P N a, cCode P N b with
    | some c, some x, some y => some (.cond c x y)
    | _, _, _ => none
  | .block id b => match cCode P N b with
    | some x => some (.block id x)
    | none => none
  | .loop b => match cCode P N b with
    | some x => some (.loop x)
    | none => none
  | .exit id => some (.exit id)
  | .scope b => match cCode P N b with
    | some x => some (.scope x)
    | none => none
  | .ret => some .ret
  | _ => none
def cRes (P : Program) : List ResultVar → Option (List ARes)
  | [] => some []
  | .tmp t :: l => match cRes P l with
    | some r => some (.tmp t :: r)
    | none => none
  | .cell a t :: l => match sizeOf? P t, aggOf P t, cRes P l with
    | some n, some g, some r => some (.cell a n g :: r)
    | _, _, _ => none
def cFun (P : Program) (f : Func) : Option AFun :=
  match f.body with
  | some c => match cCode P f.ntmps c, cRes P f.results.toList with
    | some x, some r => if f.name = "runtime.NumGoroutine" then none else some ⟨f.ntmps, r, x⟩
    | _, _ => none
  | none => none

inductive AExit where
  | normal
  | exit (id : Nat)
  | ret
def putO (fr : Fr) : Option Nat → V → Fr
  | some d, v => fr.put d v
  | none, _ => fr
def wanted (fr : Fr) : Option (Nat × Bool) → Option Bool
  | none => some true
  | some (d, b) => match fr.get d with
    | some (.bool x) => some (x == b)
    | some .undef => some false
    | _ => none
def initFr : List V → Nat → Fr
  | [], _ => .e
  | v :: l, i => (initFr l (i + 1)).put i v
def resV (fr : Fr) (aw : AW) : List ARes → Option (List V)
  | [] => some []
  | .tmp t :: l => match fr.get t with
    | some v => match resV fr aw l with
      | some r => some (v :: r)
      | none => none
    | none => none
  | .cell a sz agg :: l => match fr.get a with
    | some (.ptr b off) => match (match agg with
        | true => match aw.load b off sz with | some l => some (V.agg l) | none => none
        | false => match aw.load b off 1 with | some [v] => some v | _ => none) with
      | some v => match resV fr aw l with
        | some r => some (v :: r)
        | none => none
      | none => none
    | _ => none
def resOne : List V → V
  | [v] => v
  | l => .tuple l

/-- functions by their numbers: their code; or what they do, told otherwise. -/
structure Tab where
  code : Nat → Option AFun
  prim : Nat → List V → AW → V → AW → Prop
  ext : Nat → List V → AW → V → Prop

/-- how an operation of a drawn region went. -/
structure Stp where
  fe : Fr
  v : V
  aw0 : AW
  aw1 : AW
def T.del {α : Type} : T α → Nat → T α
  | .e, _ => .e
  | .n l v r, k => match k with
    | 0 => .n l none r
    | k + 1 => match k % 2 with
      | 0 => .n (del l (k / 2)) v r
      | _ => .n l v (del r (k / 2))
def hideL (fr : Fr) : List Nat → Fr
  | [] => fr
  | d :: l => hideL (T.del fr d) l
mutual
def V.beq : V → V → Bool
  | .undef, .undef => true
  | .bool a, .bool b => match a, b with
    | true, true => true
    | false, false => true
    | _, _ => false
  | .int k n, .int k' n' => decide (k = k') && decide (n = n')
  | .str l, .str l' => eqL l l'
  | .ptr b o, .ptr b' o' => Nat.beq b b' && Nat.beq o o'
  | .nilptr, .nilptr => true
  | .slice b o l c, .slice b' o' l' c' => Nat.beq b b' && Nat.beq o o' && Nat.beq l l' && decide (c = c')
  | .nilslice, .nilslice => true
  | .map b, .map b' => Nat.beq b b'
  | .nilmap, .nilmap => true
  | .func f a c, .func f' a' c' => decide (f = f') && VL.beq a a' && VL.beq c c'
  | .nilfunc, .nilfunc => true
  | .iface t v, .iface t' v' => Nat.beq t t' && V.beq v v'
  | .niliface, .niliface => true
  | .agg l, .agg l' => VL.beq l l'
  | .tuple l, .tuple l' => VL.beq l l'
  | _, _ => false
def VL.beq : List V → List V → Bool
  | [], [] => true
  | x :: l, y :: l' => V.beq x y && VL.beq l l'
  | _, _ => false
end
def againOK (d : DOper) (s : Stp) (aw : AW) : Bool :=
  match wanted s.fe d.op.guard with
  | some false => true
  | some true => match aop d.op.op s.fe aw with
    | some (.val v, _) => V.beq v s.v
    | _ => false
  | none => false
def drawnOK (l : List DOper) (st : List Stp) : Bool :=
  (List.range l.length).all fun i => match l[i]?, st[i]? with
    | some d, some s => d.eff || (List.range l.length).all fun e => match l[e]?, st[e]? with
      | some de, some se => !de.eff || memN i de.anc || memN e d.anc || (againOK d s se.aw0 && againOK d s se.aw1)
      | _, _ => false
    | _, _ => false

mutual
inductive Exec (tab : Tab) : ACode → Fr → AW → AExit → Fr → AW → Prop
  | skip {fr aw} : Exec tab .skip fr aw .normal fr aw
  | region {l fr aw fr' aw'} : Ops tab l fr aw fr' aw' → Exec tab (.region l) fr aw .normal fr' aw'
  | drawn {l fr aw st fr' aw'} : Pass tab l fr aw st fr' aw' → drawnOK l st = true → Exec tab (.drawn l) fr aw .normal fr' aw'
  | seq {a b fr aw fr1 aw1 e fr2 aw2} : Exec tab a fr aw .normal fr1 aw1 → Exec tab b fr1 aw1 e fr2 aw2 → Exec tab (.seq a b) fr aw e fr2 aw2
  | seqE {a b fr aw id fr1 aw1} : Exec tab a fr aw (.exit id) fr1 aw1 → Exec tab (.seq a b) fr aw (.exit id) fr1 aw1
  | seqR {a b fr aw fr1 aw1} : Exec tab a fr aw .ret fr1 aw1 → Exec tab (.seq a b) fr aw .ret fr1 aw1
  | condT {c a b fr aw e fr1 aw1} : c.ev fr = some (.bool true) → Exec tab a fr aw e fr1 aw1 → Exec tab (.cond c a b) fr aw e fr1 aw1
  | condF {c a b fr aw e fr1 aw1} : c.ev fr = some (.bool false) → Exec tab b fr aw e fr1 aw1 → Exec tab (.cond c a b) fr aw e fr1 aw1
  | block {id b fr aw fr1 aw1} : Exec tab b fr aw .normal fr1 aw1 → Exec tab (.block id b) fr aw .normal fr1 aw1
  | blockX {id b fr aw fr1 aw1} : Exec tab b fr aw (.exit id) fr1 aw1 → Exec tab (.block id b) fr aw .normal fr1 aw1
  | blockE {id id' b fr aw fr1 aw1} : Exec tab b fr aw (.exit id') fr1 aw1 → id' ≠ id → Exec tab (.block id b) fr aw (.exit id') fr1 aw1
  | blockR {id b fr aw fr1 aw1} : Exec tab b fr aw .ret fr1 aw1 → Exec tab (.block id b) fr aw .ret fr1 aw1
  | loop {b fr aw fr1 aw1 e fr2 aw2} : Exec tab b fr aw .normal fr1 aw1 → Exec tab (.loop b) fr1 aw1 e fr2 aw2 → Exec tab (.loop b) fr aw e fr2 aw2
  | loopE {b fr aw id fr1 aw1} : Exec tab b fr aw (.exit id) fr1 aw1 → Exec tab (.loop b) fr aw (.exit id) fr1 aw1
  | loopR {b fr aw fr1 aw1} : Exec tab b fr aw .ret fr1 aw1 → Exec tab (.loop b) fr aw .ret fr1 aw1
  | exit {id fr aw} : Exec tab (.exit id) fr aw (.exit id) fr aw
  | scope {b fr aw e fr1 aw1} : Exec tab b fr aw e fr1 aw1 → Exec tab (.scope b) fr aw e fr1 aw1
  | ret {fr aw} : Exec tab .ret fr aw .ret fr aw
inductive Ops (tab : Tab) : List AOper → Fr → AW → Fr → AW → Prop
  | nil {fr aw} : Ops tab [] fr aw fr aw
  | cons {o l fr aw v aw1 fr' aw'} : One tab o fr aw v aw1 → Ops tab l (putO fr o.dst v) aw1 fr' aw' → Ops tab (o :: l) fr aw fr' aw'
inductive Pass (tab : Tab) : List DOper → Fr → AW → List Stp → Fr → AW → Prop
  | nil {fr aw} : Pass tab [] fr aw [] fr aw
  | cons {d l fr aw v aw1 st fr' aw'} : One tab d.op (hideL fr d.hide) aw v aw1 → Pass tab l (putO fr d.op.dst v) aw1 st fr' aw' → Pass tab (d :: l) fr aw (⟨hideL fr d.hide, v, aw, aw1⟩ :: st) fr' aw'
inductive One (tab : Tab) : AOper → Fr → AW → V → AW → Prop
  | pass {o fr aw} : wanted fr o.guard = some false → One tab o fr aw .undef aw
  | val {o fr aw v aw1} : wanted fr o.guard = some true → aop o.op fr aw = some (.val v, aw1) → One tab o fr aw v aw1
  | skip {o fr aw aw1} : wanted fr o.guard = some true → aop o.op fr aw = some (.skip, aw1) → One tab o fr aw .undef aw1
  | call {o fr aw f args aw0 v aw1} : wanted fr o.guard = some true → aop o.op fr aw = some (.call f args, aw0) → CallR tab f args aw0 v aw1 → One tab o fr aw v aw1
  | ext {o fr aw f args aw0 v} : wanted fr o.guard = some true → aop o.op fr aw = some (.call f args, aw0) → tab.ext f args aw0 v → One tab o fr aw v aw0
inductive CallR (tab : Tab) : Nat → List V → AW → V → AW → Prop
  | code {f args aw af e fr' aw' vs} : tab.code f = some af → args.length ≤ af.ntmps → Exec tab af.body (initFr args 0) aw e fr' aw' → (e = .normal ∨ e = .ret) → resV fr' aw' af.results = some vs → CallR tab f args aw (resOne vs) aw'
  | prim {f args aw v aw'} : tab.prim f args aw v aw' → CallR tab f args aw v aw'
end
end Go.AE

/- AE, part 7: the operations that look at no memory are the model's. -/
set_option linter.unusedVariables false
set_option linter.unusedSimpArgs false
namespace Go.AE

def FR (m : Map) (N : Nat) (fr : Fr) (tmps : Array Value) : Prop := tmps.size = N ∧ ∀ d v, fr.get d = some v → ∃ v', tmps[d]? = some v' ∧ VR m v v'
theorem FR.mono {m m' : Map} (hm : m.le m') {N : Nat} {fr : Fr} {tmps : Array Value} (h : FR m N fr tmps) : FR m' N fr tmps :=
  ⟨h.1, fun d v hd => let ⟨v', h1, h2⟩ := h.2 d v hd; ⟨v', h1, h2.mono hm⟩⟩

theorem cV1_ok {m : Map} {v : Value} {x : V} (h : cV1 v = some x) : VR m x v := by
  unfold cV1 at h
  split at h <;> cases h <;> first | rfl | exact ⟨_, rfl, rfl⟩
theorem cVs_ok {m : Map} : ∀ {l : List Value} {x : List V}, cVs l = some x → VRs m x l
  | [], x, h => by cases h; rfl
  | v :: l, x, h => by
    simp only [cVs] at h
    split at h
    · rename_i y hy
      split at h
      · rename_i ys hys
        cases h
        exact ⟨v, l, rfl, cV1_ok hy, cVs_ok hys⟩
      · cases h
    · cases h
theorem cV_ok {m : Map} {v : Value} {x : V} (h : cV v = some x) : VR m x v := by
  unfold cV at h
  split at h
  · split at h
    · rename_i l hl; cases h; exact ⟨_, rfl, cVs_ok hl⟩
    · cases h
  · split at h
    · rename_i l hl; cases h; exact ⟨_, rfl, cVs_ok hl⟩
    · cases h
  · exact cV1_ok h
theorem cOpd_ok {m : Map} {N : Nat} {fr : Fr} {a : Act} (hfr : FR m N fr a.tmps) {o : Operand} {x : Opd} {v : V} (hc : cOpd o = some x) (h : x.ev fr = some v) : VR m v (a.eval o) := by
  unfold cOpd at hc
  split at hc
  · cases hc
    obtain ⟨v', h1, h2⟩ := hfr.2 _ _ h
    simp only [Act.eval, Array.getD_eq_getD_getElem?, h1, Option.getD_some]
    exact h2
  · split at hc
    · rename_i y hy; cases hc; cases h; exact cV_ok hy
    · cases hc
  · cases hc
  · cases hc; cases h
    exact ⟨#[], #[], rfl, rfl, rfl⟩
theorem cOpds_ok {m : Map} {N : Nat} {fr : Fr} {a : Act} (hfr : FR m N fr a.tmps) : ∀ {l : List Operand} {xs : List Opd} {vs : List V}, cOpds l = some xs → evs fr xs = some vs → VRs m vs (l.map a.eval)
  | [], xs, vs, hc, h => by cases hc; cases h; rfl
  | o :: l, xs, vs, hc, h => by
    simp only [cOpds] at hc
    split at hc
    · rename_i x hx
      split at hc
      · rename_i xs' hxs
        cases hc
        simp only [evs] at h
        split at h
        · rename_i v hv
          split at h
          · rename_i vs' hvs
            cases h
            exact ⟨_, _, rfl, cOpd_ok hfr hx hv, cOpds_ok hfr hxs hvs⟩
          · cases h
        · cases h
      · cases hc
    · cases hc

/-! what a value that is told must be -/
theorem VR.int_inv {m : Map} {k : IntKind} {n : Int} {v : Value} (h : VR m (.int k n) v) : v = .int k n := h
theorem VR.bool_inv {m : Map} {b : Bool} {v : Value} (h : VR m (.bool b) v) : v = .bool b := h

theorem eqL_iff : ∀ {a b : List Nat}, eqL a b = true ↔ a = b
  | [], [] => by simp [eqL]
  | [], _ :: _ => by simp [eqL]
  | _ :: _, [] => by simp [eqL]
  | a :: x, b :: y => by simp only [eqL, Bool.and_eq_true, List.cons.injEq, eqL_iff (a := x) (b := y)]; rw [Nat.beq_eq]
theorem strL_inj {s t : ByteArray} (h : strL s = strL t) : s = t := by
  have h1 : s.data.toList = t.data.toList := by
    have : ∀ (a b : List UInt8), a.map UInt8.toNat = b.map UInt8.toNat → a = b := by
      intro a
      induction a with
      | nil => intro b hb; cases b with | nil => rfl | cons _ _ => simp at hb
      | cons x xs ih =>
        intro b hb
        cases b with
        | nil => simp at hb
        | cons y ys =>
          simp only [List.map_cons, List.cons.injEq] at hb
          rw [ih ys hb.2, UInt8.toNat_inj.1 hb.1]
    exact this _ _ h
  cases s; cases t
  simp only [ByteArray.mk.injEq]
  exact Array.ext' h1
theorem strL_length (s : ByteArray) : (strL s).length = s.size := by
  unfold strL
  rw [List.length_map]
  rfl
theorem toList_data (s : ByteArray) : s.toList = s.data.toList := by
  exact ByteArray.toList_eq s
theorem eq_bytes (s t : ByteArray) : (s.toList == t.toList) = eqL (strL s) (strL t) := by
  rw [Bool.eq_iff_iff, eqL_iff, beq_iff_eq, toList_data, toList_data]
  constructor
  · intro h; simp [strL, h]
  · intro h; rw [strL_inj h]
theorem less_bytes : ∀ (a b : List UInt8), Op.bytesLess a b = lessL (a.map UInt8.toNat) (b.map UInt8.toNat)
  | _, [] => by cases ‹List UInt8› <;> rfl
  | [], _ :: _ => rfl
  | a :: x, b :: y => by
    simp only [Op.bytesLess, List.map_cons, lessL, less_bytes x y]
    congr 1
    · rw [Bool.eq_iff_iff]; simp [UInt8.lt_iff_toNat_lt, Nat.blt_eq]
    · congr 1
      rw [Bool.eq_iff_iff]; simp [← UInt8.toNat_inj]
end Go.AE

/- AE, part 8: the operations that look at no memory are the model's: one by one. -/
set_option linter.unusedVariables false
set_option linter.unusedSimpArgs false
namespace Go.AE

def OpOK (P : Program) (o : Oper) (a : Act) (aw aw' : AW) (w : World) (m : Map) (base : Nat) : Res → Prop
  | .val v => ∃ v' w' m', (execOp a.eval o).run P w = .ok (.value v') w' ∧ VR m' v v' ∧ R aw' w' m' base ∧ Goes aw aw' w w' m m'
  | .skip => ∃ w' m', (execOp a.eval o).run P w = .ok .skip w' ∧ R aw' w' m' base ∧ Goes aw aw' w w' m m'
  | .call f args => aw' = aw ∧ ∃ args', (execOp a.eval o).run P w = (callFunc f args').run P w ∧ VRs m args args'.toList

section
variable {P : Program} {o : Oper} {act : Act} {aw : AW} {w : World} {m : Map} {base N : Nat} {fr : Fr}
theorem OpOK.quiet {v : V} {v' : Value} (hR : R aw w m base) (h : (execOp act.eval o).run P w = .ok (.value v') w) (hv : VR m v v') : OpOK P o act aw aw w m base (.val v) :=
  ⟨v', w, m, h, hv, hR, .refl aw w m⟩

theorem mov_ok (hR : R aw w m base) (hfr : FR m N fr act.tmps) {x : Operand} {a : Opd} (ho : o.op = .move x ∨ o.op = .assign x) (hc : cOpd x = some a) {v : V} (hv : a.ev fr = some v) :
    OpOK P o act aw aw w m base (.val v) := by
  refine OpOK.quiet (v' := act.eval x) hR ?_ (cOpd_ok hfr hc hv)
  rcases ho with ho | ho <;> simp only [execOp, ho] <;> rfl
theorem pick_ok (hR : R aw w m base) (hfr : FR m N fr act.tmps) {c x y : Operand} {c' a b : Opd} (ho : o.op = .pick c x y) (hc : cOpd c = some c') (hx : cOpd x = some a) (hy : cOpd y = some b)
    {r : Bool} {v : V} (h1 : c'.ev fr = some (.bool r)) (h2 : (if r then a else b).ev fr = some v) : OpOK P o act aw aw w m base (.val v) := by
  have e1 : act.eval c = .bool r := cOpd_ok hfr hc h1
  cases r with
  | true =>
    refine OpOK.quiet (v' := act.eval x) hR ?_ (cOpd_ok hfr hx h2)
    simp [execOp, ho, e1, asBool]
  | false =>
    refine OpOK.quiet (v' := act.eval y) hR ?_ (cOpd_ok hfr hy h2)
    simp [execOp, ho, e1, asBool]

theorem binI_ok (op : BinOp) (t : TypeId) (k : IntKind) (a b : Int) {v : V} (hs : op ≠ .shl ∧ op ≠ .shr) (h : binI op k a b = some v) :
    ∃ v', (binOp op t (.int k a) (.int k b)).run P w = .ok v' w ∧ VR m v v' := by
  cases op <;> simp only [binI, Option.some.injEq, reduceCtorEq] at h
  case add => subst h; exact ⟨.int k (k.wrap (a + b)), by simp [binOp, Op.intArith], rfl⟩
  case sub => subst h; exact ⟨.int k (k.wrap (a - b)), by simp [binOp, Op.intArith], rfl⟩
  case mul => subst h; exact ⟨.int k (k.wrap (a * b)), by simp [binOp, Op.intArith], rfl⟩
  case quo =>
    split at h
    · cases h
    · rename_i hb; cases h; exact ⟨.int k (k.wrap (a.tdiv b)), by simp [binOp, Op.intDiv, hb], rfl⟩
  case rem =>
    split at h
    · cases h
    · rename_i hb; cases h; exact ⟨.int k (a.tmod b), by simp [binOp, Op.intDiv, hb], rfl⟩
  case and => subst h; exact ⟨.int k (bitsI .and k a b), by simp [binOp, Op.intBits, bitsI], rfl⟩
  case or => subst h; exact ⟨.int k (bitsI .or k a b), by simp [binOp, Op.intBits, bitsI], rfl⟩
  case xor => subst h; exact ⟨.int k (bitsI .xor k a b), by simp [binOp, Op.intBits, bitsI], rfl⟩
  case andNot => subst h; exact ⟨.int k (bitsI .andNot k a b), by simp [binOp, Op.intBits, bitsI], rfl⟩
  case eql => subst h; exact ⟨.bool (a == b), by simp [binOp, Op.intCmp], rfl⟩
  case neq => subst h; exact ⟨.bool (a != b), by simp [binOp, Op.intCmp], rfl⟩
  case lss => subst h; exact ⟨.bool (decide (a < b)), by simp [binOp, Op.intCmp], rfl⟩
  case leq => subst h; exact ⟨.bool (decide (a ≤ b)), by simp [binOp, Op.intCmp], rfl⟩
  case gtr => subst h; exact ⟨.bool (decide (a > b)), by simp [binOp, Op.intCmp], rfl⟩
  case geq => subst h; exact ⟨.bool (decide (a ≥ b)), by simp [binOp, Op.intCmp], rfl⟩
theorem shiftI_ok (op : BinOp) (t : TypeId) (k k' : IntKind) (a b : Int) {v : V} (h : shiftI op k a b = some v) :
    ∃ v', (binOp op t (.int k a) (.int k' b)).run P w = .ok v' w ∧ VR m v v' := by
  unfold shiftI at h
  split at h
  · cases h
  · rename_i hb
    cases op <;> simp only [Option.some.injEq, reduceCtorEq] at h
    case shl => subst h; exact ⟨.int k (k.wrap (a * 2 ^ (min b.toNat k.bits))), by simp only [binOp, Op.shift]; rw [if_neg hb]; rfl, rfl⟩
    case shr => subst h; exact ⟨.int k (a.fdiv (2 ^ (min b.toNat k.bits))), by simp only [binOp, Op.shift]; rw [if_neg hb]; rfl, rfl⟩
theorem strS_ok (op : BinOp) (t : TypeId) (a b : ByteArray) {v : V} (h : strS op (strL a) (strL b) = some v) :
    ∃ v', (binOp op t (.string a) (.string b)).run P w = .ok v' w ∧ VR m v v' := by
  have e1 : (a.toList == b.toList) = eqL (strL a) (strL b) := eq_bytes a b
  have e2 : Op.bytesLess a.toList b.toList = lessL (strL a) (strL b) := by rw [toList_data, toList_data]; exact less_bytes _ _
  cases op <;> simp only [strS, Option.some.injEq, reduceCtorEq] at h
  case add =>
    split at h
    · rename_i hl
      cases h
      rw [strL_length, strL_length] at hl
      refine ⟨.string (a ++ b), ?_, _, rfl, ?_⟩
      · have : ¬ (((a.size + b.size : Nat) : Int) > 9223372036854775807) := by omega
        simp only [binOp, Op.stringOp, IntKind.max_i64]
        rw [if_neg this]
        rfl
      · simp [strL, ByteArray.data_append]
    · cases h
  case eql => subst h; exact ⟨.bool (eqL (strL a) (strL b)), by simp only [binOp, Op.stringOp, e1, e2]; rfl, rfl⟩
  case neq => subst h; exact ⟨.bool (!eqL (strL a) (strL b)), by simp only [binOp, Op.stringOp, e1, e2]; rfl, rfl⟩
  case lss => subst h; exact ⟨.bool (lessL (strL a) (strL b)), by simp only [binOp, Op.stringOp, e1, e2]; rfl, rfl⟩
  case leq => subst h; exact ⟨.bool (lessL (strL a) (strL b) || eqL (strL a) (strL b)), by simp only [binOp, Op.stringOp, e1, e2]; rfl, rfl⟩
  case gtr => subst h; exact ⟨.bool (!(lessL (strL a) (strL b) || eqL (strL a) (strL b))), by simp only [binOp, Op.stringOp, e1, e2]; rfl, rfl⟩
  case geq => subst h; exact ⟨.bool (!lessL (strL a) (strL b)), by simp only [binOp, Op.stringOp, e1, e2]; rfl, rfl⟩
theorem aBin_ok (op : BinOp) (t : TypeId) {x y : Value} {a b v : V} (hx : VR m a x) (hy : VR m b y) (h : aBin op a b = some v) :
    ∃ v', (binOp op t x y).run P w = .ok v' w ∧ VR m v v' := by
  unfold aBin at h
  split at h
  · rename_i k a k' b
    cases hx; cases hy
    cases op
    case shl => exact shiftI_ok _ t k k' a b h
    case shr => exact shiftI_ok _ t k k' a b h
    all_goals
      simp only [] at h
      split at h
      · rename_i hk
        subst hk
        exact binI_ok _ t k a b ⟨by simp, by simp⟩ h
      · cases h
  · obtain ⟨s, rfl, rfl⟩ := hx
    obtain ⟨s', rfl, rfl⟩ := hy
    exact strS_ok op t s s' h
  · cases h
theorem eqGuard_ok (op : BinOp) (t : TypeId) (ox oy : Operand) {x y : Value} {a b v : V} (hx : VR m a x) (hy : VR m b y) (h : aBin op a b = some v) : eqGuard op t ox oy x y = pure () := by
  unfold aBin at h
  split at h
  · cases hx; cases hy; exact eqGuard_at_int ..
  · obtain ⟨s, rfl, rfl⟩ := hx; exact eqGuard_at_string ..
  · cases h
theorem bin_ok (hR : R aw w m base) (hfr : FR m N fr act.tmps) {op : BinOp} {t yt : TypeId} {x y : Operand} {a b : Opd} (ho : o.op = .binOp op t x y yt) (hx : cOpd x = some a) (hy : cOpd y = some b)
    {va vb v : V} (h1 : a.ev fr = some va) (h2 : b.ev fr = some vb) (h : aBin op va vb = some v) : OpOK P o act aw aw w m base (.val v) := by
  have e1 := cOpd_ok hfr hx h1
  have e2 := cOpd_ok hfr hy h2
  obtain ⟨v', h3, h4⟩ := aBin_ok (P := P) (w := w) op t e1 e2 h
  refine OpOK.quiet hR ?_ h4
  simp only [execOp, ho, eqGuard_ok op t x y e1 e2 h]
  simp [h3]

theorem un_ok (hR : R aw w m base) (hfr : FR m N fr act.tmps) {op : UnOp} {t : TypeId} {x : Operand} {a : Opd} (ho : o.op = .unOp op t x) (hx : cOpd x = some a)
    {va v : V} (h1 : a.ev fr = some va) (h : aUn op va = some v) : OpOK P o act aw aw w m base (.val v) := by
  have e1 := cOpd_ok hfr hx h1
  unfold aUn at h
  split at h
  · rename_i k n
    cases hq : act.eval x <;> rw [hq] at e1 <;> cases e1
    split at h <;> cases h
    · exact OpOK.quiet hR (v' := .int k (k.wrap (0 - n))) (by simp [execOp, ho, hq, Op.unary, Op.intArith]) rfl
    · exact OpOK.quiet hR (v' := .int k (bitsI .xor k (if k.signed then -1 else k.max) n)) (by simp [execOp, ho, hq, Op.unary, Op.intBits, bitsI]) rfl
  · rename_i b
    cases hq : act.eval x <;> rw [hq] at e1 <;> cases e1
    split at h <;> cases h
    exact OpOK.quiet hR (v' := .bool (!b)) (by simp [execOp, ho, hq, Op.unary]) rfl
  · cases h
theorem conv_ok (hR : R aw w m base) (hfr : FR m N fr act.tmps) {src dst : TypeId} {k0 k : IntKind} {x : Operand} {a : Opd} (ho : o.op = .convert src dst x) (hs : P.underlying src = some (.int k0)) (hd : P.underlying dst = some (.int k))
    (hx : cOpd x = some a) {k' : IntKind} {n : Int} (h1 : a.ev fr = some (.int k' n)) : OpOK P o act aw aw w m base (.val (.int k (k.wrap n))) := by
  have e1 : act.eval x = .int k' n := cOpd_ok hfr hx h1
  refine OpOK.quiet hR (v' := .int k (k.wrap n)) ?_ rfl
  simp [execOp, ho, e1, convert, run_underlying hs, run_underlying hd, Conv.intToInt]
theorem convStr_ok (hR : R aw w m base) (hfr : FR m N fr act.tmps) {src dst : TypeId} {x : Operand} {a : Opd} (ho : o.op = .convert src dst x) (hs : P.underlying src = some .string) (hd : P.underlying dst = some .string)
    (hx : cOpd x = some a) {l : List Nat} (h1 : a.ev fr = some (.str l)) : OpOK P o act aw aw w m base (.val (.str l)) := by
  obtain ⟨s, e1, e2⟩ := cOpd_ok hfr hx h1
  refine OpOK.quiet hR (v' := .string s) ?_ ⟨s, rfl, e2⟩
  simp [execOp, ho, e1, convert, run_underlying hs, run_underlying hd]
theorem nilCheck_ok (hR : R aw w m base) (hfr : FR m N fr act.tmps) {x : Operand} {a : Opd} (ho : o.op = .nilCheck x) (hx : cOpd x = some a) {v : V} (h1 : a.ev fr = some v)
    (hv : (∃ b off, v = .ptr b off) ∨ (∃ f p q, v = .func (.func f) p q) ∨ (∃ t u, v = .iface t u)) : OpOK P o act aw aw w m base (.val v) := by
  have e0 := cOpd_ok hfr hx h1
  rcases hv with ⟨b, off, rfl⟩ | ⟨f, p, q, rfl⟩ | ⟨t, u, rfl⟩
  · obtain ⟨e, _, e1⟩ := id e0
    refine OpOK.quiet hR (v' := act.eval x) ?_ e0
    simp [execOp, ho, e1]
  · obtain ⟨f', c', e1, _, _⟩ := id e0
    refine OpOK.quiet hR (v' := act.eval x) ?_ e0
    simp [execOp, ho, e1]
  · obtain ⟨y, e1, _⟩ := id e0
    refine OpOK.quiet hR (v' := act.eval x) ?_ e0
    simp [execOp, ho, e1]
theorem fieldAddr_ok (hR : R aw w m base) (hfr : FR m N fr act.tmps) {s : TypeId} {x : Operand} {f : Nat} {a : Opd} {fs : Array Field} {fd : Field} {n : Nat} (ho : o.op = .fieldAddr s x f) (hx : cOpd x = some a)
    (hu : P.underlying s = some (.struct fs)) (hf : fs[f]? = some fd) (hs : sizeOf? P fd.type = some (n + 1)) {b off : Nat} (h1 : a.ev fr = some (.ptr b off)) :
    OpOK P o act aw aw w m base (.val (.ptr b (off + fd.offset))) := by
  obtain ⟨e, hm, e1⟩ := cOpd_ok hfr hx h1
  have hi : ∃ i, P.info? fd.type = some i ∧ i.size = n + 1 := by
    unfold sizeOf? at hs
    split at hs
    · rename_i i hi; exact ⟨i, hi, by simpa using hs⟩
    · cases hs
  obtain ⟨i, hi, hin⟩ := hi
  refine OpOK.quiet hR (v' := .pointer (some ⟨e.c, e.s + (off + fd.offset), none⟩)) ?_ ⟨e, hm, rfl⟩
  simp [execOp, ho, e1, Instr.fieldAt, run_underlying hu, hf, Instr.sureAddr, fieldPlace, sizeOf, typeInfo, hi, hin, Addr.add_lit, Nat.add_assoc]
theorem idx_inv {m : Map} {v : V} {x : Value} {n : Nat} (h : idx v = some n) (hv : VR m v x) : ∃ k, x = .int k (n : Int) := by
  unfold idx at h
  split at h
  · cases h; exact ⟨_, hv⟩
  · cases h
theorem size_inv {P : Program} {t : TypeId} {n : Nat} (hs : sizeOf? P t = some n) : ∃ i, P.info? t = some i ∧ i.size = n := by
  unfold sizeOf? at hs
  split at hs
  · rename_i i hi; exact ⟨i, hi, by simpa using hs⟩
  · cases hs
theorem indexAddr_ok (hR : R aw w m base) (hfr : FR m N fr act.tmps) {t el : TypeId} {x i : Operand} {a c : Opd} {esz : Nat} (ho : o.op = .indexAddr t x i) (hx : cOpd x = some a) (hi : cOpd i = some c)
    (hu : P.underlying t = some (.slice el)) (hs : sizeOf? P el = some esz) {b off len n : Nat} {cap : Cap} {iv : V} (h1 : a.ev fr = some (.slice b off len cap)) (h2 : c.ev fr = some iv) (h3 : idx iv = some n) (hn : n < len) :
    OpOK P o act aw aw w m base (.val (.ptr b (off + n * esz))) := by
  obtain ⟨e, hm, e1⟩ := cOpd_ok hfr hx h1
  obtain ⟨k, e2⟩ := idx_inv h3 (cOpd_ok hfr hi h2)
  obtain ⟨inf, hinf, hsz⟩ := size_inv hs
  have e3 : ∃ cp, act.eval x = .slice (some ⟨e.c, e.s + off, none⟩) len cp := by
    cases cap with
    | known c => exact ⟨c, e1⟩
    | upTo z =>
      obtain ⟨ad, cp, q1, q2, q3⟩ := e1
      rcases q3 with ⟨rfl, _⟩ | h0
      · exact ⟨cp, q1⟩
      · omega
  obtain ⟨cp, e3⟩ := e3
  refine OpOK.quiet hR (v' := .pointer (some ⟨e.c, e.s + (off + n * esz), none⟩)) ?_ ⟨e, hm, rfl⟩
  have hlt : (n : Int) < (len : Int) := by omega
  simp [execOp, ho, e3, e2, Instr.indexAt, run_underlying hu, asIntOf, hn, sizeOf, typeInfo, hinf, hsz, Addr.add_lit, Nat.add_assoc]
theorem indexArr_ok (hR : R aw w m base) (hfr : FR m N fr act.tmps) {t el : TypeId} {x i : Operand} {a c : Opd} {esz len : Nat} (ho : o.op = .indexAddr t x i) (hx : cOpd x = some a) (hi : cOpd i = some c)
    (hu : P.underlying t = some (.array len el)) (hs : sizeOf? P el = some esz) {b off n : Nat} {iv : V} (h1 : a.ev fr = some (.ptr b off)) (h2 : c.ev fr = some iv) (h3 : idx iv = some n) (hn : n < len) :
    OpOK P o act aw aw w m base (.val (.ptr b (off + n * esz))) := by
  obtain ⟨e, hm, e1⟩ := cOpd_ok hfr hx h1
  obtain ⟨k, e2⟩ := idx_inv h3 (cOpd_ok hfr hi h2)
  obtain ⟨inf, hinf, hsz⟩ := size_inv hs
  refine OpOK.quiet hR (v' := .pointer (some ⟨e.c, e.s + (off + n * esz), none⟩)) ?_ ⟨e, hm, rfl⟩
  have hlt : (n : Int) < (len : Int) := by omega
  simp [execOp, ho, e1, e2, Instr.indexAt, Instr.sureAddr, run_underlying hu, asIntOf, hn, sizeOf, typeInfo, hinf, hsz, Addr.add_lit, Nat.add_assoc]
theorem indexStr_ok (hR : R aw w m base) (hfr : FR m N fr act.tmps) {t : TypeId} {x i : Operand} {a c : Opd} (ho : o.op = .index t x i) (hx : cOpd x = some a) (hi : cOpd i = some c)
    (hu : P.underlying t = some .string) {l : List Nat} {n ch : Nat} {iv : V} (h1 : a.ev fr = some (.str l)) (h2 : c.ev fr = some iv) (h3 : idx iv = some n) (hn : l[n]? = some ch) :
    OpOK P o act aw aw w m base (.val (.int .u8 (Int.ofNat ch))) := by
  obtain ⟨s, e1, rfl⟩ := cOpd_ok hfr hx h1
  obtain ⟨k, e2⟩ := idx_inv h3 (cOpd_ok hfr hi h2)
  have hch : ∃ u, s[n]? = some u ∧ u.toNat = ch := by
    simp only [strL, List.getElem?_map, Option.map_eq_some_iff] at hn
    obtain ⟨u, hu1, hu2⟩ := hn
    refine ⟨u, ?_, hu2⟩
    have hlt : n < s.data.toList.length := (List.getElem?_eq_some_iff.1 hu1).1
    have hlt' : n < s.size := by simpa [ByteArray.size_data] using hlt
    rw [List.getElem?_eq_getElem hlt] at hu1
    rw [getElem?_pos s n hlt']
    rw [← hu1]
    congr 1
  obtain ⟨u, hu1, rfl⟩ := hch
  refine OpOK.quiet hR (v' := .int .u8 u.toNat) ?_ rfl
  simp [execOp, ho, e1, e2, Instr.index, run_underlying hu, asIntOf, hu1]
end
end Go.AE

/- AE, part 9: parts of aggregates; equality; interfaces, functions, lengths, cuts. -/
set_option linter.unusedVariables false
set_option linter.unusedSimpArgs false
namespace Go.AE

theorem takeN_eq : ∀ {n : Nat} {l r : List V}, takeN n l = some r → r = l.take n ∧ n ≤ l.length
  | 0, l, r, h => by cases h; simp
  | n + 1, [], r, h => by cases h
  | n + 1, v :: l, r, h => by
    simp only [takeN] at h
    split at h
    · rename_i q hq
      cases h
      obtain ⟨h1, h2⟩ := takeN_eq hq
      exact ⟨by simp [h1], by simp; omega⟩
    · cases h
theorem VRs.drop {m : Map} : ∀ {n : Nat} {l : List V} {l' : List Value}, VRs m l l' → VRs m (l.drop n) (l'.drop n)
  | 0, l, l', h => h
  | n + 1, [], l', h => by cases h; exact rfl
  | n + 1, x :: xs, l', h => by obtain ⟨y, ys, rfl, _, h3⟩ := h; exact VRs.drop (n := n) h3
theorem VRs.take {m : Map} : ∀ {n : Nat} {l : List V} {l' : List Value}, VRs m l l' → VRs m (l.take n) (l'.take n)
  | 0, l, l', h => by simp; exact rfl
  | n + 1, [], l', h => by cases h; exact rfl
  | n + 1, x :: xs, l', h => by obtain ⟨y, ys, rfl, h2, h3⟩ := h; exact ⟨y, ys.take n, rfl, h2, VRs.take h3⟩

section
variable {P : Program} {o : Oper} {act : Act} {aw : AW} {w : World} {m : Map} {base N : Nat} {fr : Fr}

theorem run_isAgg {t : TypeId} {g : Bool} (h : aggOf P t = some g) : (isAgg t).run P w = .ok g w := by
  unfold aggOf at h
  split at h
  · rename_i fs hu; cases h; simp [isAgg, run_underlying hu]
  · rename_i n e hu; cases h; simp [isAgg, run_underlying hu]
  · rename_i d h1 h2 hu
    cases h
    simp only [isAgg, Sem.run_bind, run_underlying hu, Result.andThen_ok]
    cases d <;> first | rfl | (exact absurd hu (h1 _)) | (exact absurd hu (h2 _ _))
  · cases h
theorem run_sizeOf {t : TypeId} {n : Nat} (h : sizeOf? P t = some n) : (sizeOf t).run P w = .ok n w := by
  obtain ⟨i, h1, h2⟩ := size_inv h
  simp [sizeOf, typeInfo, h1, h2]
theorem part_ok {t : TypeId} {l : List V} {cs : Array Value} {off n : Nat} {g : Bool} {v : V} (hl : VRs m l cs.toList) (hs : sizeOf? P t = some n) (hg : aggOf P t = some g) (h : partV l off n g = some v) :
    ∃ v', (part t cs off).run P w = .ok v' w ∧ VR m v v' := by
  unfold partV at h
  cases g with
  | true =>
    simp only [] at h
    split at h
    · rename_i r hr
      cases h
      obtain ⟨h1, h2⟩ := takeN_eq hr
      refine ⟨.agg (cs.extract off (off + n)), ?_, _, rfl, ?_⟩
      · simp [part, run_isAgg hg, run_sizeOf hs]
      · rw [h1]
        have := (hl.drop (n := off)).take (n := n)
        simpa [Array.toList_extract, List.extract_eq_take_drop] using this
    · cases h
  | false =>
    simp only [List.head?_drop] at h
    obtain ⟨y, hy1, hy2⟩ := hl.get h
    refine ⟨y, ?_, hy2⟩
    have : cs[off]? = some y := by simpa using hy1
    simp [part, run_isAgg hg, this]

theorem indexAgg_ok (hR : R aw w m base) (hfr : FR m N fr act.tmps) {t el : TypeId} {x i : Operand} {a c : Opd} {len n : Nat} {g : Bool} (ho : o.op = .index t x i) (hx : cOpd x = some a) (hi : cOpd i = some c)
    (hu : P.underlying t = some (.array len el)) (hs : sizeOf? P el = some n) (hg : aggOf P el = some g) {l : List V} {j : Nat} {iv v : V} (h1 : a.ev fr = some (.agg l)) (h2 : c.ev fr = some iv) (h3 : idx iv = some j) (hj : j < len)
    (h4 : partV l (j * n) n g = some v) : OpOK P o act aw aw w m base (.val v) := by
  obtain ⟨cs, e1, e3⟩ := cOpd_ok hfr hx h1
  obtain ⟨k, e2⟩ := idx_inv h3 (cOpd_ok hfr hi h2)
  obtain ⟨v', q1, q2⟩ := part_ok (P := P) (w := w) e3 hs hg h4
  refine OpOK.quiet hR ?_ q2
  simp [execOp, ho, e1, e2, Instr.index, run_underlying hu, asIntOf, hj, run_sizeOf hs, q1]
theorem field_ok (hR : R aw w m base) (hfr : FR m N fr act.tmps) {t : TypeId} {x : Operand} {f : Nat} {a : Opd} {fs : Array Field} {fd : Field} {n : Nat} {g : Bool} (ho : o.op = .field t x f) (hx : cOpd x = some a)
    (hu : P.underlying t = some (.struct fs)) (hf : fs[f]? = some fd) (hs : sizeOf? P fd.type = some n) (hg : aggOf P fd.type = some g) {l : List V} {v : V} (h1 : a.ev fr = some (.agg l)) (h4 : partV l fd.offset n g = some v) :
    OpOK P o act aw aw w m base (.val v) := by
  obtain ⟨cs, e1, e3⟩ := cOpd_ok hfr hx h1
  obtain ⟨v', q1, q2⟩ := part_ok (P := P) (w := w) e3 hs hg h4
  refine OpOK.quiet hR ?_ q2
  simp [execOp, ho, e1, Instr.field, run_underlying hu, hf, asAgg, q1]

/-! ### Equality -/
def eqTyOf (P : Program) (t : TypeId) : EqTy → Prop
  | .bool => P.underlying t = some .bool
  | .ptr => ∃ e n, P.underlying t = some (.pointer e) ∧ sizeOf? P e = some (n + 1)
  | .slice => ∃ e, P.underlying t = some (.slice e)
  | .map => ∃ k e, P.underlying t = some (.map k e)
  | .func => ∃ a b c, P.underlying t = some (.func a b c)
  | .iface => ∃ ms, P.underlying t = some (.interface ms)
theorem eqV_run (d : Nat) {t : TypeId} {ty : EqTy} (ht : eqTyOf P t ty) {a b : V} {x y : Value} (hx : VR m a x) (hy : VR m b y) {r : Bool} (h : eqV ty a b = some r) :
    (Op.equalIn (d + 1) t x y).run P w = .ok r w := by
  unfold eqV at h
  split at h
  case h_1 => cases h; cases hx; cases hy; simp [Op.equalIn, run_underlying ht]
  case h_2 => cases h; cases hx; cases hy; obtain ⟨e, n, hu, hs⟩ := ht; simp [Op.equalIn, run_underlying hu]
  case h_3 => cases h; cases hx; obtain ⟨e', q1, rfl⟩ := hy; obtain ⟨e, n, hu, hs⟩ := ht; simp [Op.equalIn, run_underlying hu]
  case h_4 => cases h; cases hy; obtain ⟨e', q1, rfl⟩ := hx; obtain ⟨e, n, hu, hs⟩ := ht; simp [Op.equalIn, run_underlying hu]
  case h_5 =>
    split at h
    · rename_i b o b' o' hb
      subst hb
      cases h
      obtain ⟨e1, q1, rfl⟩ := hx
      obtain ⟨e2, q2, rfl⟩ := hy
      rw [q1] at q2; cases q2
      obtain ⟨e, n, hu, hs⟩ := ht
      have hbeq : ((⟨e1.c, e1.s + o, none⟩ : Addr) == ⟨e1.c, e1.s + o', none⟩) = Nat.beq o o' := by
        rw [Bool.eq_iff_iff, beq_iff_eq, Nat.beq_eq]
        simp
      simp [Op.equalIn, run_underlying hu, run_sizeOf hs, sameAddr, hbeq]
    · cases h
  case h_6 => cases h; cases hx; cases hy; obtain ⟨e, hu⟩ := ht; simp [Op.equalIn, run_underlying hu]
  case h_7 =>
    cases h; cases hx; obtain ⟨e, hu⟩ := ht
    obtain ⟨e', q1, q2⟩ := hy
    rename_i b off len cap
    cases cap with
    | known c => simp only [] at q2; subst q2; simp [Op.equalIn, run_underlying hu]
    | upTo z => obtain ⟨ad, cp, rfl, _⟩ := q2; simp [Op.equalIn, run_underlying hu]
  case h_8 =>
    cases h; cases hy; obtain ⟨e, hu⟩ := ht
    obtain ⟨e', q1, q2⟩ := hx
    rename_i b off len cap
    cases cap with
    | known c => simp only [] at q2; subst q2; simp [Op.equalIn, run_underlying hu]
    | upTo z => obtain ⟨ad, cp, rfl, _⟩ := q2; simp [Op.equalIn, run_underlying hu]
  case h_9 => cases h; cases hx; cases hy; obtain ⟨k, e, hu⟩ := ht; simp [Op.equalIn, run_underlying hu]
  case h_10 => cases h; cases hx; obtain ⟨e', q1, rfl⟩ := hy; obtain ⟨k, e, hu⟩ := ht; simp [Op.equalIn, run_underlying hu]
  case h_11 => cases h; cases hy; obtain ⟨e', q1, rfl⟩ := hx; obtain ⟨k, e, hu⟩ := ht; simp [Op.equalIn, run_underlying hu]
  case h_12 => cases h; cases hx; cases hy; obtain ⟨q, k, e, hu⟩ := ht; simp [Op.equalIn, run_underlying hu]
  case h_13 => cases h; cases hx; obtain ⟨p1, p2, rfl, _⟩ := hy; obtain ⟨q, k, e, hu⟩ := ht; simp [Op.equalIn, run_underlying hu]
  case h_14 => cases h; cases hy; obtain ⟨p1, p2, rfl, _⟩ := hx; obtain ⟨q, k, e, hu⟩ := ht; simp [Op.equalIn, run_underlying hu]
  case h_15 => cases h; cases hx; cases hy; obtain ⟨e, hu⟩ := ht; simp [Op.equalIn, run_underlying hu]
  case h_16 => cases h; cases hx; obtain ⟨p1, rfl, _⟩ := hy; obtain ⟨e, hu⟩ := ht; simp [Op.equalIn, run_underlying hu]
  case h_17 => cases h; cases hy; obtain ⟨p1, rfl, _⟩ := hx; obtain ⟨e, hu⟩ := ht; simp [Op.equalIn, run_underlying hu]
  case h_18 => cases h
theorem isNil_const {x : Operand} (h : isNilIface x = true) : x = .const .nilIface := by
  unfold isNilIface at h
  split at h
  · rfl
  · cases h
theorem eqvGuard {op : BinOp} {t : TypeId} {ty : EqTy} {ox oy : Operand} {a b : V} {x y : Value} (hx : VR m a x) (hy : VR m b y) {r : Bool} (h : eqV ty a b = some r)
    (hn : ty = .iface → isNilIface ox = true ∨ isNilIface oy = true) : eqGuard op t ox oy x y = pure () := by
  unfold eqV at h
  split at h
  case h_1 => cases hx; exact eqGuard_at_bool ..
  case h_2 => cases hx; exact eqGuard_at_pointer ..
  case h_3 => cases hx; exact eqGuard_at_pointer ..
  case h_4 => obtain ⟨e', q1, rfl⟩ := hx; exact eqGuard_at_pointer ..
  case h_5 => obtain ⟨e', q1, rfl⟩ := hx; exact eqGuard_at_pointer ..
  case h_6 => cases hx; exact eqGuard_at_slice ..
  case h_7 => cases hx; exact eqGuard_at_slice ..
  case h_8 =>
    obtain ⟨e', q1, q2⟩ := hx
    rename_i b off len cap
    cases cap with
    | known c => simp only [] at q2; subst q2; exact eqGuard_at_slice ..
    | upTo z => obtain ⟨ad, cp, rfl, _⟩ := q2; exact eqGuard_at_slice ..
  case h_9 => cases hx; exact eqGuard_at_map ..
  case h_10 => cases hx; exact eqGuard_at_map ..
  case h_11 => obtain ⟨e', q1, rfl⟩ := hx; exact eqGuard_at_map ..
  case h_12 => cases hx; exact eqGuard_at_nilFunc ..
  case h_13 => cases hx; exact eqGuard_at_nilFunc ..
  case h_14 => obtain ⟨p1, p2, rfl, _⟩ := hx; exact eqGuard_at_func ..
  case h_15 =>
    cases hx; cases hy
    rcases hn rfl with h1 | h1
    · rw [isNil_const h1]; exact eqGuard_nil_constL ..
    · rw [isNil_const h1]; exact eqGuard_nil_constR ..
  case h_16 => cases hx; obtain ⟨p1, rfl, _⟩ := hy; exact eqGuard_nil_iface ..
  case h_17 => obtain ⟨p1, rfl, _⟩ := hx; exact eqGuard_at_iface ..
  case h_18 => cases h
theorem binOp_equal {t : TypeId} {ty : EqTy} {a b : V} {x y : Value} (hx : VR m a x) (hy : VR m b y) {r : Bool} (h : eqV ty a b = some r) (neg : Bool) :
    binOp (if neg then .neq else .eql) t x y = (do pure (.bool (neg != (← Op.equal t x y))) : Sem Value) := by
  unfold eqV at h
  have f1 : ∀ z : Bool, (false != z) = z := by decide
  have f2 : ∀ z : Bool, (true != z) = !z := by decide
  split at h
  case h_1 => cases hx; cases hy; cases neg <;> simp [binOp, f1, f2]
  case h_2 => cases hx; cases hy; cases neg <;> simp [binOp, f1, f2]
  case h_3 => cases hx; obtain ⟨e', q1, rfl⟩ := hy; cases neg <;> simp [binOp, f1, f2]
  case h_4 => cases hy; obtain ⟨e', q1, rfl⟩ := hx; cases neg <;> simp [binOp, f1, f2]
  case h_5 => obtain ⟨e', q1, rfl⟩ := hx; obtain ⟨e', q1, rfl⟩ := hy; cases neg <;> simp [binOp, f1, f2]
  case h_6 => cases hx; cases hy; cases neg <;> simp [binOp, f1, f2]
  case h_7 =>
    cases hx; obtain ⟨e', q1, q2⟩ := hy
    rename_i b off len cap
    cases cap with
    | known c => simp only [] at q2; subst q2; cases neg <;> simp [binOp, f1, f2]
    | upTo z => obtain ⟨ad, cp, rfl, _⟩ := q2; cases neg <;> simp [binOp, f1, f2]
  case h_8 =>
    cases hy; obtain ⟨e', q1, q2⟩ := hx
    rename_i b off len cap
    cases cap with
    | known c => simp only [] at q2; subst q2; cases neg <;> simp [binOp, f1, f2]
    | upTo z => obtain ⟨ad, cp, rfl, _⟩ := q2; cases neg <;> simp [binOp, f1, f2]
  case h_9 => cases hx; cases hy; cases neg <;> simp [binOp, f1, f2]
  case h_10 => cases hx; obtain ⟨e', q1, rfl⟩ := hy; cases neg <;> simp [binOp, f1, f2]
  case h_11 => cases hy; obtain ⟨e', q1, rfl⟩ := hx; cases neg <;> simp [binOp, f1, f2]
  case h_12 => cases hx; cases hy; cases neg <;> simp [binOp, f1, f2]
  case h_13 => cases hx; obtain ⟨p1, p2, rfl, _⟩ := hy; cases neg <;> simp [binOp, f1, f2]
  case h_14 => cases hy; obtain ⟨p1, p2, rfl, _⟩ := hx; cases neg <;> simp [binOp, f1, f2]
  case h_15 => cases hx; cases hy; cases neg <;> simp [binOp, f1, f2]
  case h_16 => cases hx; obtain ⟨p1, rfl, _⟩ := hy; cases neg <;> simp [binOp, f1, f2]
  case h_17 => cases hy; obtain ⟨p1, rfl, _⟩ := hx; cases neg <;> simp [binOp, f1, f2]
  case h_18 => cases h
theorem eqv_ok (hR : R aw w m base) (hfr : FR m N fr act.tmps) {neg : Bool} {t yt : TypeId} {ty : EqTy} {x y : Operand} {a b : Opd} (ho : o.op = .binOp (if neg then .neq else .eql) t x y yt) (hx : cOpd x = some a) (hy : cOpd y = some b)
    (ht : eqTyOf P t ty) (hn : ty = .iface → isNilIface x = true ∨ isNilIface y = true)
    {va vb : V} {r : Bool} (h1 : a.ev fr = some va) (h2 : b.ev fr = some vb) (h : eqV ty va vb = some r) : OpOK P o act aw aw w m base (.val (.bool (neg != r))) := by
  have e1 := cOpd_ok hfr hx h1
  have e2 := cOpd_ok hfr hy h2
  refine OpOK.quiet hR (v' := .bool (neg != r)) ?_ rfl
  have e3 := eqV_run (P := P) (w := w) 9999 ht e1 e2 h
  have e4 : (Op.equal t (act.eval x) (act.eval y)).run P w = .ok r w := e3
  simp only [execOp, ho, eqvGuard e1 e2 h hn, binOp_equal e1 e2 h neg]
  simp [e4]
end
end Go.AE

/- AE, part 10: structs that are equal; interfaces, functions, tuples, lengths, the least and the greatest; cuts of strings, slices, arrays; aggregates built. -/
set_option linter.unusedVariables false
set_option linter.unusedSimpArgs false
namespace Go.AE

section
variable {P : Program} {o : Oper} {act : Act} {aw : AW} {w : World} {m : Map} {base N : Nat} {fr : Fr}

theorem scTy_agg {t : TypeId} {s : Sc} (h : scTy P t = some s) : aggOf P t = some false := by
  unfold scTy at h
  unfold aggOf
  split at h
  · rename_i hu; rw [hu]
  · rename_i hu; rw [hu]
  · rename_i hu; rw [hu]
  · cases h
theorem eqScalar_run (d : Nat) {t : TypeId} {s : Sc} (ht : scTy P t = some s) {a b : V} {x y : Value} (hx : VR m a x) (hy : VR m b y) {r : Bool} (h : eqScalar s a b = some r) :
    (Op.equalIn (d + 1) t x y).run P w = .ok r w := by
  unfold eqScalar at h
  unfold scTy at ht
  split at h
  · split at h
    · rename_i k a k' b hk
      subst hk
      cases h; cases hx; cases hy
      split at ht
      · rename_i hu; exact run_equalIn_int w d t _ _ _ _ hu
      all_goals cases ht
    · cases h
  · cases h
    obtain ⟨s, rfl, rfl⟩ := hx
    obtain ⟨s', rfl, rfl⟩ := hy
    split at ht
    · cases ht
    · rename_i hu; rw [run_equalIn_string w d t _ _ hu, eq_bytes]
    all_goals cases ht
  · cases h; cases hx; cases hy
    split at ht
    · cases ht
    · cases ht
    · rename_i hu; exact run_equalIn_bool w d t _ _ hu
    · cases ht
  · cases h
theorem eqCells_run (d : Nat) {xs ys : Array Value} : ∀ {fs : List Field} {n : Nat} {l : List Sc} {a b : List V} {r : Bool}, scFields P fs n = some l → VRs m a (xs.toList.drop n) → VRs m b (ys.toList.drop n) →
    eqCells l a b = some r → (Op.eqFields (d + 1) xs ys fs).run P w = .ok r w
  | [], n, l, a, b, r, hf, ha, hb, h => by
    cases hf
    unfold eqCells at h
    split at h
    · cases h; rfl
    · rename_i h1; cases h1
    · cases h
  | f :: fs, n, l, a, b, r, hf, ha, hb, h => by
    simp only [scFields] at hf
    split at hf
    · rename_i s q hnm hoff hs hq
      cases hf
      have hname : f.name ≠ "_" := by simpa using hnm
      have hoff' : f.offset = n := Nat.eq_of_beq_eq_true hoff
      cases a with
      | nil => simp [eqCells] at h
      | cons va as =>
        cases b with
        | nil => simp [eqCells] at h
        | cons vb bs =>
          obtain ⟨x, xr, hx1, hx2, hx3⟩ := ha
          obtain ⟨y, yr, hy1, hy2, hy3⟩ := hb
          have gx : xs[n]? = some x := by
            have := congrArg (·[0]?) hx1
            simpa using this
          have gy : ys[n]? = some y := by
            have := congrArg (·[0]?) hy1
            simpa using this
          have dx : xs.toList.drop (n + 1) = xr := by
            have := congrArg (List.drop 1) hx1
            simpa [List.drop_drop, Nat.add_comm] using this
          have dy : ys.toList.drop (n + 1) = yr := by
            have := congrArg (List.drop 1) hy1
            simpa [List.drop_drop, Nat.add_comm] using this
          have hg := scTy_agg hs
          have p1 : (part f.type xs f.offset).run P w = .ok x w := by simp [part, run_isAgg hg, hoff', gx]
          have p2 : (part f.type ys f.offset).run P w = .ok y w := by simp [part, run_isAgg hg, hoff', gy]
          simp only [Op.eqFields, if_pos hname, Sem.run_bind, p1, p2, Result.andThen_ok]
          simp only [eqCells] at h
          split at h
          · rename_i he
            rw [eqScalar_run d hs hx2 hy2 he]
            simp only [Result.andThen_ok, Bool.not_true, Bool.false_eq_true, if_false]
            exact eqCells_run d hq (by rw [dx]; exact hx3) (by rw [dy]; exact hy3) h
          · rename_i he
            cases h
            rw [eqScalar_run d hs hx2 hy2 he]
            simp
          · cases h
    · cases hf
theorem eqAgg_equal (d : Nat) {t : TypeId} {fs : Array Field} {l : List Sc} (hu : P.underlying t = some (.struct fs)) (hst : P.stoodInHeld t = false) (hf : scFields P fs.toList 0 = some l)
    {xs ys : Array Value} {a b : List V} (ha : VRs m a xs.toList) (hb : VRs m b ys.toList) {r : Bool} (h : eqCells l a b = some r) : (Op.equalIn (d + 2) t (.agg xs) (.agg ys)).run P w = .ok r w := by
  have hfo : P.fieldsOf t = fs := by simp [Program.fieldsOf, hu]
  rw [run_equalIn_struct w (d + 1) t xs ys (by rw [hfo]; exact hu) hst, hfo]
  exact eqCells_run d hf (by simpa using ha) (by simpa using hb) h
theorem eqAgg_ok (hR : R aw w m base) (hfr : FR m N fr act.tmps) {neg : Bool} {t yt : TypeId} {x y : Operand} {a b : Opd} (ho : o.op = .binOp (if neg then .neq else .eql) t x y yt) (hx : cOpd x = some a) (hy : cOpd y = some b)
    {fs : Array Field} {l : List Sc} (hu : P.underlying t = some (.struct fs)) (hst : P.stoodInHeld t = false) (hg : P.eqGuardType P.depth t = false) (hf : scFields P fs.toList 0 = some l)
    {va vb : List V} {r : Bool} (h1 : a.ev fr = some (.agg va)) (h2 : b.ev fr = some (.agg vb)) (h : eqCells l va vb = some r) : OpOK P o act aw aw w m base (.val (.bool (neg != r))) := by
  obtain ⟨xs, e1, e3⟩ := cOpd_ok hfr hx h1
  obtain ⟨ys, e2, e4⟩ := cOpd_ok hfr hy h2
  have e5 : (Op.equalIn 10000 t (.agg xs) (.agg ys)).run P w = .ok r w := eqAgg_equal (P := P) (w := w) 9998 hu hst hf e3 e4 h
  refine OpOK.quiet hR (v' := .bool (neg != r)) ?_ rfl
  have e6 := run_eqGuard_agg w (if neg then .neq else .eql) t x y xs ys hg
  cases neg with
  | false =>
    simp only [execOp, ho, Sem.run_bind, e1, e2]
    simp only [Bool.false_eq_true, if_false] at e6 ⊢
    rw [e6]
    simp only [Result.andThen_ok, run_eql_struct, e5]
    cases r <;> rfl
  | true =>
    simp only [execOp, ho, Sem.run_bind, e1, e2]
    simp only [if_true] at e6 ⊢
    rw [e6]
    simp only [Result.andThen_ok, run_neq_struct, e5]
    cases r <;> rfl

theorem mkIface_ok (hR : R aw w m base) (hfr : FR m N fr act.tmps) {t : TypeId} {x : Operand} {a : Opd} {d : TypeDesc} (ho : o.op = .makeInterface t x) (hx : cOpd x = some a) (hu : P.underlying t = some d) (hd : ∀ ms, d ≠ .interface ms)
    {v : V} (h1 : a.ev fr = some v) : OpOK P o act aw aw w m base (.val (.iface t v)) := by
  refine OpOK.quiet hR (v' := .iface t (act.eval x)) ?_ ⟨_, rfl, cOpd_ok hfr hx h1⟩
  simp only [execOp, ho, Instr.makeInterface, Sem.run_bind, run_underlying hu, Result.andThen_ok]
  cases d <;> first | rfl | exact absurd rfl (hd _)
theorem zero_ok {t : TypeId} {z : V} (hz : zeroOf P t = some z) : ∃ z', (zeroValue t).run P w = .ok z' w ∧ VR m z z' := by
  unfold zeroOf at hz
  split at hz
  · rename_i i hi
    split at hz
    · rename_i z' hz'
      exact ⟨z', by simp [zeroValue, typeInfo, hi, hz'], cV_ok hz⟩
    · cases hz
  · cases hz
theorem typeAssert_ok (hR : R aw w m base) (hfr : FR m N fr act.tmps) {t xt : TypeId} {x : Operand} {a : Opd} {d : TypeDesc} {z : V} {ok : Bool} (ho : o.op = .typeAssert x xt t ok) (hx : cOpd x = some a) (hu : P.underlying t = some d) (hd : ∀ ms, d ≠ .interface ms)
    (hz : zeroOf P t = some z) {v r : V} (h1 : a.ev fr = some v)
    (h : (∃ u, v = .iface t u ∧ r = (match (generalizing := false) ok with | true => .tuple [u, .bool true] | false => u)) ∨ (ok = true ∧ r = .tuple [z, .bool false] ∧ (v = .niliface ∨ ∃ t' u, v = .iface t' u ∧ t' ≠ t))) :
    OpOK P o act aw aw w m base (.val r) := by
  have e1 := cOpd_ok hfr hx h1
  obtain ⟨z', hz1, hz2⟩ := zero_ok (P := P) (w := w) (m := m) hz
  rcases h with ⟨u, rfl, rfl⟩ | ⟨rfl, rfl, hv⟩
  · obtain ⟨y, e2, e3⟩ := e1
    cases ok with
    | true =>
      refine OpOK.quiet hR (v' := .tuple #[y, .bool true]) ?_ ⟨_, rfl, y, [.bool true], rfl, e3, _, [], rfl, rfl, rfl⟩
      simp only [execOp, ho, Instr.typeAssert, Sem.run_bind, run_underlying hu, Result.andThen_ok, e2]
      cases d <;> first | (simp; done) | exact absurd rfl (hd _)
    | false =>
      refine OpOK.quiet hR (v' := y) ?_ e3
      simp only [execOp, ho, Instr.typeAssert, Sem.run_bind, run_underlying hu, Result.andThen_ok, e2]
      cases d <;> first | (simp; done) | exact absurd rfl (hd _)
  · refine OpOK.quiet hR (v' := .tuple #[z', .bool false]) ?_ ⟨_, rfl, z', [.bool false], rfl, hz2, _, [], rfl, rfl, rfl⟩
    rcases hv with rfl | ⟨t', u, rfl, hne⟩
    · cases hq : act.eval x <;> rw [hq] at e1 <;> cases e1
      simp only [execOp, ho, Instr.typeAssert, Sem.run_bind, run_underlying hu, Result.andThen_ok, hq]
      cases d <;> first | (simp [hz1]; done) | exact absurd rfl (hd _)
    · obtain ⟨y, e2, e3⟩ := e1
      simp only [execOp, ho, Instr.typeAssert, Sem.run_bind, run_underlying hu, Result.andThen_ok, e2]
      cases d <;> first | (simp [hz1, hne]; done) | exact absurd rfl (hd _)
theorem mkFunc_ok (hR : R aw w m base) (hfr : FR m N fr act.tmps) {fn : Fn} {first cap : Array Operand} {f c : List Opd} (ho : o.op = .makeFunc fn first cap) (hf : cOpds first.toList = some f) (hc : cOpds cap.toList = some c)
    {vf vc : List V} (h1 : evs fr f = some vf) (h2 : evs fr c = some vc) : OpOK P o act aw aw w m base (.val (.func fn vf vc)) := by
  refine OpOK.quiet hR (v' := .func fn (first.map act.eval) (cap.map act.eval)) ?_ ⟨_, _, rfl, by simpa using cOpds_ok hfr hf h1, by simpa using cOpds_ok hfr hc h2⟩
  simp [execOp, ho, Instr.makeFunc]
theorem extract_ok (hR : R aw w m base) (hfr : FR m N fr act.tmps) {i : Nat} {x : Operand} {a : Opd} (ho : o.op = .extract x i) (hx : cOpd x = some a) {l : List V} {v : V} (h1 : a.ev fr = some (.tuple l)) (h2 : l[i]? = some v) :
    OpOK P o act aw aw w m base (.val v) := by
  obtain ⟨vs, e1, e2⟩ := cOpd_ok hfr hx h1
  obtain ⟨y, q1, q2⟩ := e2.get h2
  refine OpOK.quiet hR (v' := y) ?_ q2
  have : vs[i]? = some y := by simpa using q1
  simp [execOp, ho, e1, Instr.extract, this]
end
end Go.AE
