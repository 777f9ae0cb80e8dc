/- AE, part 1: tries, abstract values, the relation of abstract values to the model's values. -/
import Derived.WalkKit
import Derived.Orders
import Derived.Scope
set_option linter.unusedVariables false
namespace Go.AE

/-! ### A trie over Nat -/
inductive T (α : Type) where
  | e
  | n (l : T α) (v : Option α) (r : T α)
namespace T
variable {α : Type}
def get : T α → Nat → Option α
  | .e, _ => none
  | .n l v r, k => match k with
    | 0 => v
    | k + 1 => match k % 2 with
      | 0 => get l (k / 2)
      | _ => get r (k / 2)
def single : Nat → Nat → α → T α
  | 0, _, _ => .e
  | f + 1, k, x => match k with
    | 0 => .n .e (some x) .e
    | k + 1 => match k % 2 with
      | 0 => .n (single f (k / 2) x) none .e
      | _ => .n .e none (single f (k / 2) x)
def put : T α → Nat → α → T α
  | .e, k, x => single 40 k x
  | .n l v r, k, x => match k with
    | 0 => .n l (some x) r
    | k + 1 => match k % 2 with
      | 0 => .n (put l (k / 2) x) v r
      | _ => .n l v (put r (k / 2) x)
theorem get_e (k : Nat) : (T.e : T α).get k = none := rfl
theorem get_single : ∀ (f k : Nat) (x : α) (j : Nat) (u : α), (single f k x).get j = some u → j = k ∧ u = x := by
  intro f
  induction f with
  | zero => intro k x j u h; simp [single, get] at h
  | succ f ih =>
    intro k x j u h
    cases k with
    | zero =>
      cases j with
      | zero => simp [single, get] at h; exact ⟨rfl, h.symm⟩
      | succ j => simp only [single, get] at h; split at h <;> simp at h
    | succ k =>
      simp only [single] at h
      split at h
      · rename_i hk
        cases j with
        | zero => simp [get] at h
        | succ j =>
          simp only [get] at h
          split at h
          · rename_i hj
            obtain ⟨h1, h2⟩ := ih _ _ _ _ h
            exact ⟨by omega, h2⟩
          · simp at h
      · rename_i hk
        cases j with
        | zero => simp [get] at h
        | succ j =>
          simp only [get] at h
          split at h
          · simp at h
          · rename_i hj
            obtain ⟨h1, h2⟩ := ih _ _ _ _ h
            have hk' : ¬ k % 2 = 0 := hk
            have hj' : ¬ j % 2 = 0 := hj
            exact ⟨by omega, h2⟩
/-- what a put trie tells: the new one, or what the old one told. -/
theorem get_put {t : T α} : ∀ {k : Nat} {x : α} {j : Nat} {u : α}, (t.put k x).get j = some u → (j = k ∧ u = x) ∨ (j ≠ k ∧ t.get j = some u) := by
  induction t with
  | e => intro k x j u h; exact .inl (get_single _ _ _ _ _ h)
  | n l v r ihl ihr =>
    intro k x j u h
    cases k with
    | zero =>
      cases j with
      | zero => simp [put, get] at h; exact .inl ⟨rfl, h.symm⟩
      | succ j => exact .inr ⟨by omega, by simpa [put, get] using h⟩
    | succ k =>
      cases j with
      | zero =>
        refine .inr ⟨by omega, ?_⟩
        simp only [put] at h
        split at h <;> simpa [get] using h
      | succ j =>
        simp only [put] at h
        split at h
        · rename_i hk
          simp only [get] at h ⊢
          split at h
          · rename_i hj
            rcases ihl h with ⟨h1, h2⟩ | ⟨h1, h2⟩
            · exact .inl ⟨by omega, h2⟩
            · exact .inr ⟨by omega, h2⟩
          · rename_i hj
            have hj' : ¬ j % 2 = 0 := hj
            exact .inr ⟨by omega, h⟩
        · rename_i hk
          have hk' : ¬ k % 2 = 0 := hk
          simp only [get] at h ⊢
          split at h
          · rename_i hj
            exact .inr ⟨by omega, h⟩
          · rename_i hj
            have hj' : ¬ j % 2 = 0 := hj
            rcases ihr h with ⟨h1, h2⟩ | ⟨h1, h2⟩
            · exact .inl ⟨by omega, h2⟩
            · exact .inr ⟨by omega, h2⟩
theorem get_single_same : ∀ (f k : Nat) (x : α), k < 2 ^ f - 1 → (single f k x).get k = some x := by
  intro f
  induction f with
  | zero => intro k x h; simp at h
  | succ f ih =>
    intro k x h
    have hp : 2 ^ (f + 1) = 2 * 2 ^ f := by rw [Nat.pow_succ]; omega
    cases k with
    | zero => simp [single, get]
    | succ k =>
      simp only [single]
      have := ih (k / 2) x (by omega)
      split
      · rename_i hk; simp only [get, hk]; exact this
      · rename_i hk
        simp only [get]
        exact this
theorem get_put_same {t : T α} : ∀ {k : Nat} {x : α}, k < 1099511627775 → (t.put k x).get k = some x := by
  induction t with
  | e => intro k x h; exact get_single_same 40 k x (by simpa using h)
  | n l v r ihl ihr =>
    intro k x h
    cases k with
    | zero => simp [put, get]
    | succ k =>
      simp only [put]
      split
      · rename_i hk; simp only [get, hk]; exact ihl (by omega)
      · rename_i hk
        simp only [get]
        exact ihr (by omega)
theorem get_single_ne : ∀ (f k : Nat) (x : α) (j : Nat), j ≠ k → (single f k x).get j = none := by
  intro f k x j h
  cases hg : (single f k x).get j with
  | none => rfl
  | some u => exact absurd (get_single _ _ _ _ _ hg).1 h
theorem get_put_ne {t : T α} : ∀ {k : Nat} {x : α} {j : Nat}, j ≠ k → (t.put k x).get j = t.get j := by
  induction t with
  | e => intro k x j h; exact get_single_ne _ _ _ _ h
  | n l v r ihl ihr =>
    intro k x j h
    cases k with
    | zero =>
      cases j with
      | zero => exact absurd rfl h
      | succ j => simp [put, get]
    | succ k =>
      cases j with
      | zero => simp only [put]; split <;> simp [get]
      | succ j =>
        simp only [put]
        split
        · rename_i hk
          simp only [get]
          split
          · rename_i hj; exact ihl (by omega)
          · rfl
        · rename_i hk
          have hk' : ¬ k % 2 = 0 := hk
          simp only [get]
          split
          · rfl
          · rename_i hj
            have hj' : ¬ j % 2 = 0 := hj
            exact ihr (by omega)
end T

/-! ### Abstract values -/
inductive Cap where
  | known (c : Nat)
  | upTo (esz : Nat)       -- as far as the block goes; elements of so many cells
  deriving DecidableEq
inductive V where
  | undef
  | bool (b : Bool)
  | int (k : IntKind) (n : Int)
  | str (l : List Nat)
  | ptr (b off : Nat)
  | nilptr
  | slice (b off len : Nat) (cap : Cap)
  | nilslice
  | map (b : Nat)
  | nilmap
  | func (fn : Fn) (first captured : List V)
  | nilfunc
  | iface (t : TypeId) (v : V)
  | niliface
  | agg (l : List V)
  | tuple (l : List V)
  deriving Inhabited

/-- where an abstract block lies: the block, the first cell, the block's whole size in cells. -/
structure Emb where
  c : Nat
  s : Nat
  tot : Nat
abbrev Map := Nat → Option Emb

def strL (s : ByteArray) : List Nat := s.data.toList.map UInt8.toNat

mutual
def VR (m : Map) : V → Value → Prop
  | .undef, v => v = undef
  | .bool b, v => v = .bool b
  | .int k n, v => v = .int k n
  | .str l, v => ∃ s, v = .string s ∧ strL s = l
  | .ptr b off, v => ∃ e, m b = some e ∧ v = .pointer (some ⟨e.c, e.s + off, none⟩)
  | .nilptr, v => v = .pointer none
  | .slice b off len cap, v => ∃ e, m b = some e ∧ match cap with
    | .known c => v = .slice (some ⟨e.c, e.s + off, none⟩) len c
    | .upTo esz => ∃ a cp, v = .slice (some a) len cp ∧ len ≤ cp ∧ ((a = ⟨e.c, e.s + off, none⟩ ∧ e.s + off + cp * esz = e.tot) ∨ cp = 0)
  | .nilslice, v => v = .slice none 0 0
  | .map b, v => ∃ e, m b = some e ∧ v = .map (some e.c)
  | .nilmap, v => v = .map none
  | .func fn f c, v => ∃ f' c', v = .func fn f' c' ∧ VRs m f f'.toList ∧ VRs m c c'.toList
  | .nilfunc, v => v = .nilFunc
  | .iface t x, v => ∃ y, v = .iface t y ∧ VR m x y
  | .niliface, v => v = .nilIface
  | .agg l, v => ∃ a, v = .agg a ∧ VRs m l a.toList
  | .tuple l, v => ∃ a, v = .tuple a ∧ VRs m l a.toList
def VRs (m : Map) : List V → List Value → Prop
  | [], l => l = []
  | x :: xs, l => ∃ y ys, l = y :: ys ∧ VR m x y ∧ VRs m xs ys
end

def Map.le (m m' : Map) : Prop := ∀ b e, m b = some e → m' b = some e
theorem Map.le.refl (m : Map) : m.le m := fun _ _ h => h
theorem Map.le.trans {m m' m'' : Map} (h : m.le m') (h' : m'.le m'') : m.le m'' := fun _ _ h1 => h' _ _ (h _ _ h1)

mutual
theorem VR.mono {m m' : Map} (hm : m.le m') : ∀ {x : V} {v : Value}, VR m x v → VR m' x v := by
  intro x v h
  match x with
  | .undef | .bool _ | .int _ _ | .str _ | .nilptr | .nilslice | .nilmap | .nilfunc | .niliface => exact h
  | .ptr b off => obtain ⟨e, h1, h2⟩ := h; exact ⟨e, hm _ _ h1, h2⟩
  | .slice b off len cap => obtain ⟨e, h1, h2⟩ := h; exact ⟨e, hm _ _ h1, h2⟩
  | .map b => obtain ⟨e, h1, h2⟩ := h; exact ⟨e, hm _ _ h1, h2⟩
  | .func fn f c => obtain ⟨f', c', h1, h2, h3⟩ := h; exact ⟨f', c', h1, VRs.mono hm h2, VRs.mono hm h3⟩
  | .iface t y => obtain ⟨y', h1, h2⟩ := h; exact ⟨y', h1, VR.mono hm h2⟩
  | .agg l => obtain ⟨a, h1, h2⟩ := h; exact ⟨a, h1, VRs.mono hm h2⟩
  | .tuple l => obtain ⟨a, h1, h2⟩ := h; exact ⟨a, h1, VRs.mono hm h2⟩
theorem VRs.mono {m m' : Map} (hm : m.le m') : ∀ {x : List V} {v : List Value}, VRs m x v → VRs m' x v := by
  intro x v h
  match x with
  | [] => exact h
  | x :: xs => obtain ⟨y, ys, h1, h2, h3⟩ := h; exact ⟨y, ys, h1, VR.mono hm h2, VRs.mono hm h3⟩
end

theorem VRs.length {m : Map} : ∀ {l : List V} {l' : List Value}, VRs m l l' → l'.length = l.length
  | [], l', h => by cases h; rfl
  | x :: xs, l', h => by obtain ⟨y, ys, rfl, _, h3⟩ := h; simp [VRs.length h3]
theorem VRs.get {m : Map} : ∀ {l : List V} {l' : List Value}, VRs m l l' → ∀ {i : Nat} {x : V}, l[i]? = some x → ∃ y, l'[i]? = some y ∧ VR m x y
  | [], l', h, i, x, hx => by simp at hx
  | x :: xs, l', h, i, z, hx => by
    obtain ⟨y, ys, rfl, h2, h3⟩ := h
    cases i with
    | zero => simp at hx; subst hx; exact ⟨y, by simp, h2⟩
    | succ i => simp at hx; simpa using VRs.get h3 hx
theorem VRs.of_get {m : Map} : ∀ {l : List V} {l' : List Value}, l'.length = l.length → (∀ (i : Nat) (x : V) (y : Value), l[i]? = some x → l'[i]? = some y → VR m x y) → VRs m l l'
  | [], l', h, _ => by cases l' with | nil => rfl | cons _ _ => simp at h
  | x :: xs, l', h, hg => by
    cases l' with
    | nil => simp at h
    | cons y ys => exact ⟨y, ys, rfl, hg 0 x y (by simp) (by simp), VRs.of_get (by simpa using h) (fun i a b ha hb => hg (i + 1) a b (by simpa using ha) (by simpa using hb))⟩
theorem VRs.append {m : Map} : ∀ {l : List V} {l' : List Value} {k : List V} {k' : List Value}, VRs m l l' → VRs m k k' → VRs m (l ++ k) (l' ++ k')
  | [], l', k, k', h, h' => by cases h; exact h'
  | x :: xs, l', k, k', h, h' => by obtain ⟨y, ys, rfl, h2, h3⟩ := h; exact ⟨y, ys ++ k', rfl, h2, VRs.append h3 h'⟩
end Go.AE
